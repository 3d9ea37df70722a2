/- Several texts in one. -/
import Derived.StillTailTactics
import Derived.Deep.DeepCutAuto
import Derived.Test.YtapehckcmmompaaM16
namespace Go.Proofs.Ytapehckcmmompaa
open Go.ChangeShapes Go.WideShapes Go.ChangeAt Go.RowKit
set_option linter.unusedVariables false
set_option linter.unusedSimpArgs false
set_option maxRecDepth 100000
attribute [local go_sem ↓] Go.wp_at_zero Go.wp_at_succ
set_option maxHeartbeats 16000000 in
theorem put_calls (d p : Int) (D A : Option Addr) (cd ca B : Nat) (ds : List Dk) (os : List Ob) (nm : ByteArray) (Ab : Option Addr) (cb Bb : Nat) (b : List Nat) (w : World) (hnd : ds.length ≤ cd) (hcd : cd ≤ 9223372036854775807) (hna : os.length ≤ ca) (hca : ca ≤ 9223372036854775807) (hd : RD B w D ds) (hs : RO B w A os) (hl : ∀ o ∈ os, Lh o.name) (hnm : nm.size ≤ 9223372036854775807) (hb1 : b.length ≤ cb) (hb2 : cb ≤ 9223372036854775807) (hb3 : RBA Bb w Ab b) :
  Calls Try.prog 14 #[Tv d p (.slice D ds.length cd) (.slice A os.length ca), .string nm, .slice Ab b.length cb] w (SOPost w (putS d p ds os nm b) (putE d p ds os nm b)) := by
 have HD := Lib.hid hd
 have HS := Lib.hid hs
 have HL := Lib.hid hl
 clear hd hs hl
 have HBB := Lib.hid hb3
 clear hb3
 by_cases ck : chS d p ds os = 0
 rotate_left
 ·skip
  have E := putE_bad (nm := nm) (b := b) ck
  have S := putS_bad E (by first | exact ck | decide)
  rw [E, S]
  clear E S
  go_enter Try.func14, Try.ntmps14
  go_upto_region 1 with fail
  have SB : Hid (((w.alloc (.cells #[.int .i64 d, .int .i64 p, .slice D ds.length cd, .slice A os.length ca] 25)).alloc (.cells #[.int .i64 0, .int .i64 0, .slice none 0 0, .slice none 0 0] 25)).heap[w.heap.size]? = some (.cells #[.int .i64 d, .int .i64 p, .slice D ds.length cd, .slice A os.length ca] 25)) := Lib.hid (blk_alloc (blk_new w _) _)
  have XB : Hid (((w.alloc (.cells #[.int .i64 d, .int .i64 p, .slice D ds.length cd, .slice A os.length ca] 25)).alloc (.cells #[.int .i64 0, .int .i64 0, .slice none 0 0, .slice none 0 0] 25)).heap[w.heap.size + 1]? = some (.cells #[.int .i64 0, .int .i64 0, .slice none 0 0, .slice none 0 0] 25)) := Lib.hid (blk_at _ (by simp))
  have NN : Hid (Below w.heap.size w ((w.alloc (.cells #[.int .i64 d, .int .i64 p, .slice D ds.length cd, .slice A os.length ca] 25)).alloc (.cells #[.int .i64 0, .int .i64 0, .slice none 0 0, .slice none 0 0] 25))) := Lib.hid (Bal (Bal (Below.refl _ _) _) _)
  generalize ((w.alloc (.cells #[.int .i64 d, .int .i64 p, .slice D ds.length cd, .slice A os.length ca] 25)).alloc (.cells #[.int .i64 0, .int .i64 0, .slice none 0 0, .slice none 0 0] 25)) = W0 at *
  have s0 := blk_cell SB.out 0 _ rfl
  have s1 := blk_cell SB.out 1 _ rfl
  have s2 := blk_cell SB.out 2 _ rfl
  have s3 := blk_cell SB.out 3 _ rfl
  have ls := blk_lt SB.out
  go_wp2_with fail
  clear s0 s1 s2 s3 ls
  refine (open_bad d p D A cd ca B ds os _ hnd hcd hna hca (HD.out.next NN.out) (HS.out.next NN.out) HL.out ck).mono ?_
  rintro e w1 ⟨v, u, rfl, ht, hu, hb⟩
  obtain ⟨Av, cv, rfl, hv1, hv2⟩ := ht.form
  obtain ⟨Au, cu, rfl, hu1, hu2⟩ := hu.form
  replace SB := Lib.hid (blk_next hb SB.out)
  replace XB := Lib.hid (blk_next hb XB.out)
  replace NN := Lib.hid (Bgo NN.out hb)
  clear hb
  have ck2 : (chS d p ds os != 0) = true := by rw [bne_iff_ne]; exact ck
  go_upto_region 2 with fail
  have B9 : Below w1.heap.size w1 (w1.alloc (.cells #[.int .i64 noS.1, .int .i64 noS.2.1, .slice Av noS.2.2.1.length cv, .slice Au noS.2.2.2.length cu, .int .i64 0, .int .i64 0] 79)) := Bal (Below.refl _ _) _
  replace SB := Lib.hid (blk_next B9 SB.out)
  replace XB := Lib.hid (blk_next B9 XB.out)
  replace NN := Lib.hid (Bgo NN.out B9)
  clear B9 ht hu
  generalize (w1.alloc (.cells #[.int .i64 noS.1, .int .i64 noS.2.1, .slice Av noS.2.2.1.length cv, .slice Au noS.2.2.2.length cu, .int .i64 0, .int .i64 0] 79)) = W1 at *
  have x0 := blk_cell XB.out 0 _ rfl
  have fx0 := blk_frozen XB.out 0
  have x1 := blk_cell XB.out 1 _ rfl
  have fx1 := blk_frozen XB.out 1
  have x2 := blk_cell XB.out 2 _ rfl
  have fx2 := blk_frozen XB.out 2
  have x3 := blk_cell XB.out 3 _ rfl
  have fx3 := blk_frozen XB.out 3
  have lx := blk_lt XB.out
  go_wp2_with fail
  have Z := blk_set4 XB.out (.int .i64 0) (.int .i64 0) (.slice none 0 0) (.slice none 0 0)
  have e0 := blk_cell Z 0 _ rfl
  have e1 := blk_cell Z 1 _ rfl
  have e2 := blk_cell Z 2 _ rfl
  have e3 := blk_cell Z 3 _ rfl
  exact bodyPost_ret (v := .tuple #[Tv 0 0 (.slice none 0 0) (.slice none 0 0), .int .i64 (chS d p ds os)]) (by simp [results, Try.results14, go_sem, e0, e1, e2, e3]) rfl ⟨_, _, rfl, OT.nil _ _, OO.nil _ _, Bset4 NN.out (by omega) _ _ _ _⟩
 have OK := Lib.hid (chS_ok ck)
 have NC := Lib.hid (fun W => calls_below (isName_calls nm W hnm))
 by_cases n1 : namB nm.data.toList = true
 rotate_left
 ·have n1' : namB nm.data.toList = false := by simpa using n1
  rw [n1'] at NC
  have E := putE_name (b := b) ck n1'
  have S := putS_bad E (by first | exact ck | decide)
  rw [E, S]
  clear E S
  go_enter Try.func14, Try.ntmps14
  go_upto_region 1 with fail
  have SB : Hid (((w.alloc (.cells #[.int .i64 d, .int .i64 p, .slice D ds.length cd, .slice A os.length ca] 25)).alloc (.cells #[.int .i64 0, .int .i64 0, .slice none 0 0, .slice none 0 0] 25)).heap[w.heap.size]? = some (.cells #[.int .i64 d, .int .i64 p, .slice D ds.length cd, .slice A os.length ca] 25)) := Lib.hid (blk_alloc (blk_new w _) _)
  have XB : Hid (((w.alloc (.cells #[.int .i64 d, .int .i64 p, .slice D ds.length cd, .slice A os.length ca] 25)).alloc (.cells #[.int .i64 0, .int .i64 0, .slice none 0 0, .slice none 0 0] 25)).heap[w.heap.size + 1]? = some (.cells #[.int .i64 0, .int .i64 0, .slice none 0 0, .slice none 0 0] 25)) := Lib.hid (blk_at _ (by simp))
  have NN : Hid (Below w.heap.size w ((w.alloc (.cells #[.int .i64 d, .int .i64 p, .slice D ds.length cd, .slice A os.length ca] 25)).alloc (.cells #[.int .i64 0, .int .i64 0, .slice none 0 0, .slice none 0 0] 25))) := Lib.hid (Bal (Bal (Below.refl _ _) _) _)
  generalize ((w.alloc (.cells #[.int .i64 d, .int .i64 p, .slice D ds.length cd, .slice A os.length ca] 25)).alloc (.cells #[.int .i64 0, .int .i64 0, .slice none 0 0, .slice none 0 0] 25)) = W0 at *
  have s0 := blk_cell SB.out 0 _ rfl
  have s1 := blk_cell SB.out 1 _ rfl
  have s2 := blk_cell SB.out 2 _ rfl
  have s3 := blk_cell SB.out 3 _ rfl
  have ls := blk_lt SB.out
  go_wp2_with fail
  clear s0 s1 s2 s3 ls
  refine (open_ok d p D A cd ca B ds os _ hnd hcd hna hca (HD.out.next NN.out) (HS.out.next NN.out) HL.out ck).mono ?_
  rintro e w1 ⟨v, u, rfl, ht, hu, hb⟩
  have T := Lib.hid (ht.mono NN.out.size)
  have U := Lib.hid (hu.mono NN.out.size)
  clear ht hu
  simp only at T U
  obtain ⟨Av, cv, rfl, hv1, hv2⟩ := T.out.form
  obtain ⟨Au, cu, rfl, hu1, hu2⟩ := U.out.form
  replace SB := Lib.hid (blk_next hb SB.out)
  replace XB := Lib.hid (blk_next hb XB.out)
  replace NN := Lib.hid (Bgo NN.out hb)
  clear hb
  go_upto_region 2 with fail
  have HB : Hid ((w1.alloc (.cells #[.int .i64 d, .int .i64 p, .slice Av ds.length cv, .slice Au os.length cu, .int .i64 (strN os), .int .i64 (faN ds)] 79)).heap[w1.heap.size]? = some (.cells #[.int .i64 d, .int .i64 p, .slice Av ds.length cv, .slice Au os.length cu, .int .i64 (strN os), .int .i64 (faN ds)] 79)) := Lib.hid (blk_new _ _)
  have B9 : Below w1.heap.size w1 (w1.alloc (.cells #[.int .i64 d, .int .i64 p, .slice Av ds.length cv, .slice Au os.length cu, .int .i64 (strN os), .int .i64 (faN ds)] 79)) := Bal (Below.refl _ _) _
  have LX : w.heap.size + 1 < w1.heap.size := blk_lt XB.out
  replace SB := Lib.hid (blk_next B9 SB.out)
  replace XB := Lib.hid (blk_next B9 XB.out)
  replace NN := Lib.hid (Bgo NN.out B9)
  replace T := Lib.hid (T.out.next B9)
  replace U := Lib.hid (U.out.next B9)
  clear B9
  generalize (w1.alloc (.cells #[.int .i64 d, .int .i64 p, .slice Av ds.length cv, .slice Au os.length cu, .int .i64 (strN os), .int .i64 (faN ds)] 79)) = W1 at *
  generalize w1.heap.size = gh at *
  have h0 := blk_cell HB.out 0 _ rfl
  have h1 := blk_cell HB.out 1 _ rfl
  have h2 := blk_cell HB.out 2 _ rfl
  have h3 := blk_cell HB.out 3 _ rfl
  have h4 := blk_cell HB.out 4 _ rfl
  have h5 := blk_cell HB.out 5 _ rfl
  have lh := blk_lt HB.out
  go_wp2_with fail
  clear h0 h1 h2 h3 h4 h5 lh
  refine (NC.out _).mono ?_
  rintro e w2 ⟨rfl, hb⟩
  replace SB := Lib.hid (blk_next hb SB.out)
  replace XB := Lib.hid (blk_next hb XB.out)
  replace HB := Lib.hid (blk_next hb HB.out)
  replace NN := Lib.hid (Bgo NN.out hb)
  replace T := Lib.hid (T.out.next hb)
  replace U := Lib.hid (U.out.next hb)
  clear hb
  have x0 := blk_cell XB.out 0 _ rfl
  have fx0 := blk_frozen XB.out 0
  have x1 := blk_cell XB.out 1 _ rfl
  have fx1 := blk_frozen XB.out 1
  have x2 := blk_cell XB.out 2 _ rfl
  have fx2 := blk_frozen XB.out 2
  have x3 := blk_cell XB.out 3 _ rfl
  have fx3 := blk_frozen XB.out 3
  have lx := blk_lt XB.out
  go_wp2_with fail
  have Z := blk_set4 XB.out (.int .i64 0) (.int .i64 0) (.slice none 0 0) (.slice none 0 0)
  have e0 := blk_cell Z 0 _ rfl
  have e1 := blk_cell Z 1 _ rfl
  have e2 := blk_cell Z 2 _ rfl
  have e3 := blk_cell Z 3 _ rfl
  exact bodyPost_ret (v := .tuple #[Tv 0 0 (.slice none 0 0) (.slice none 0 0), .int .i64 (8)]) (by simp [results, Try.results14, go_sem, e0, e1, e2, e3]) rfl ⟨_, _, rfl, OT.nil _ _, OO.nil _ _, Bset4 NN.out (by omega) _ _ _ _⟩
 rw [n1] at NC
 by_cases f1 : 0 ≤ findL os nm.toList
 ·have t_f1 : decide (0 ≤ findL os nm.toList) = true := decide_eq_true f1
  have E := putE_twice (b := b) ck n1 f1
  have S := putS_bad E (by first | exact ck | decide)
  rw [E, S]
  clear E S
  go_enter Try.func14, Try.ntmps14
  go_upto_region 1 with fail
  have SB : Hid (((w.alloc (.cells #[.int .i64 d, .int .i64 p, .slice D ds.length cd, .slice A os.length ca] 25)).alloc (.cells #[.int .i64 0, .int .i64 0, .slice none 0 0, .slice none 0 0] 25)).heap[w.heap.size]? = some (.cells #[.int .i64 d, .int .i64 p, .slice D ds.length cd, .slice A os.length ca] 25)) := Lib.hid (blk_alloc (blk_new w _) _)
  have XB : Hid (((w.alloc (.cells #[.int .i64 d, .int .i64 p, .slice D ds.length cd, .slice A os.length ca] 25)).alloc (.cells #[.int .i64 0, .int .i64 0, .slice none 0 0, .slice none 0 0] 25)).heap[w.heap.size + 1]? = some (.cells #[.int .i64 0, .int .i64 0, .slice none 0 0, .slice none 0 0] 25)) := Lib.hid (blk_at _ (by simp))
  have NN : Hid (Below w.heap.size w ((w.alloc (.cells #[.int .i64 d, .int .i64 p, .slice D ds.length cd, .slice A os.length ca] 25)).alloc (.cells #[.int .i64 0, .int .i64 0, .slice none 0 0, .slice none 0 0] 25))) := Lib.hid (Bal (Bal (Below.refl _ _) _) _)
  generalize ((w.alloc (.cells #[.int .i64 d, .int .i64 p, .slice D ds.length cd, .slice A os.length ca] 25)).alloc (.cells #[.int .i64 0, .int .i64 0, .slice none 0 0, .slice none 0 0] 25)) = W0 at *
  have s0 := blk_cell SB.out 0 _ rfl
  have s1 := blk_cell SB.out 1 _ rfl
  have s2 := blk_cell SB.out 2 _ rfl
  have s3 := blk_cell SB.out 3 _ rfl
  have ls := blk_lt SB.out
  go_wp2_with fail
  clear s0 s1 s2 s3 ls
  refine (open_ok d p D A cd ca B ds os _ hnd hcd hna hca (HD.out.next NN.out) (HS.out.next NN.out) HL.out ck).mono ?_
  rintro e w1 ⟨v, u, rfl, ht, hu, hb⟩
  have T := Lib.hid (ht.mono NN.out.size)
  have U := Lib.hid (hu.mono NN.out.size)
  clear ht hu
  simp only at T U
  obtain ⟨Av, cv, rfl, hv1, hv2⟩ := T.out.form
  obtain ⟨Au, cu, rfl, hu1, hu2⟩ := U.out.form
  replace SB := Lib.hid (blk_next hb SB.out)
  replace XB := Lib.hid (blk_next hb XB.out)
  replace NN := Lib.hid (Bgo NN.out hb)
  clear hb
  go_upto_region 2 with fail
  have HB : Hid ((w1.alloc (.cells #[.int .i64 d, .int .i64 p, .slice Av ds.length cv, .slice Au os.length cu, .int .i64 (strN os), .int .i64 (faN ds)] 79)).heap[w1.heap.size]? = some (.cells #[.int .i64 d, .int .i64 p, .slice Av ds.length cv, .slice Au os.length cu, .int .i64 (strN os), .int .i64 (faN ds)] 79)) := Lib.hid (blk_new _ _)
  have B9 : Below w1.heap.size w1 (w1.alloc (.cells #[.int .i64 d, .int .i64 p, .slice Av ds.length cv, .slice Au os.length cu, .int .i64 (strN os), .int .i64 (faN ds)] 79)) := Bal (Below.refl _ _) _
  have LX : w.heap.size + 1 < w1.heap.size := blk_lt XB.out
  replace SB := Lib.hid (blk_next B9 SB.out)
  replace XB := Lib.hid (blk_next B9 XB.out)
  replace NN := Lib.hid (Bgo NN.out B9)
  replace T := Lib.hid (T.out.next B9)
  replace U := Lib.hid (U.out.next B9)
  clear B9
  generalize (w1.alloc (.cells #[.int .i64 d, .int .i64 p, .slice Av ds.length cv, .slice Au os.length cu, .int .i64 (strN os), .int .i64 (faN ds)] 79)) = W1 at *
  generalize w1.heap.size = gh at *
  have h0 := blk_cell HB.out 0 _ rfl
  have h1 := blk_cell HB.out 1 _ rfl
  have h2 := blk_cell HB.out 2 _ rfl
  have h3 := blk_cell HB.out 3 _ rfl
  have h4 := blk_cell HB.out 4 _ rfl
  have h5 := blk_cell HB.out 5 _ rfl
  have lh := blk_lt HB.out
  go_wp2_with fail
  clear h0 h1 h2 h3 h4 h5 lh
  refine (NC.out _).mono ?_
  rintro e w2 ⟨rfl, hb⟩
  replace SB := Lib.hid (blk_next hb SB.out)
  replace XB := Lib.hid (blk_next hb XB.out)
  replace HB := Lib.hid (blk_next hb HB.out)
  replace NN := Lib.hid (Bgo NN.out hb)
  replace T := Lib.hid (T.out.next hb)
  replace U := Lib.hid (U.out.next hb)
  clear hb
  have h0 := blk_cell HB.out 0 _ rfl
  have h1 := blk_cell HB.out 1 _ rfl
  have h2 := blk_cell HB.out 2 _ rfl
  have h3 := blk_cell HB.out 3 _ rfl
  have h4 := blk_cell HB.out 4 _ rfl
  have h5 := blk_cell HB.out 5 _ rfl
  have lh := blk_lt HB.out
  go_wp2_with fail
  clear h0 h1 h2 h3 h4 h5 lh
  refine (oFind_calls Au cu w.heap.size os nm _ hu1 hu2 U.out.ro).mono ?_
  rintro e w3 ⟨rfl, hb⟩
  replace SB := Lib.hid (blk_next hb SB.out)
  replace XB := Lib.hid (blk_next hb XB.out)
  replace HB := Lib.hid (blk_next hb HB.out)
  replace NN := Lib.hid (Bgo NN.out hb)
  replace T := Lib.hid (T.out.next hb)
  replace U := Lib.hid (U.out.next hb)
  clear hb
  have x0 := blk_cell XB.out 0 _ rfl
  have fx0 := blk_frozen XB.out 0
  have x1 := blk_cell XB.out 1 _ rfl
  have fx1 := blk_frozen XB.out 1
  have x2 := blk_cell XB.out 2 _ rfl
  have fx2 := blk_frozen XB.out 2
  have x3 := blk_cell XB.out 3 _ rfl
  have fx3 := blk_frozen XB.out 3
  have lx := blk_lt XB.out
  go_wp2_with fail
  have Z := blk_set4 XB.out (.int .i64 0) (.int .i64 0) (.slice none 0 0) (.slice none 0 0)
  have e0 := blk_cell Z 0 _ rfl
  have e1 := blk_cell Z 1 _ rfl
  have e2 := blk_cell Z 2 _ rfl
  have e3 := blk_cell Z 3 _ rfl
  exact bodyPost_ret (v := .tuple #[Tv 0 0 (.slice none 0 0) (.slice none 0 0), .int .i64 (14)]) (by simp [results, Try.results14, go_sem, e0, e1, e2, e3]) rfl ⟨_, _, rfl, OT.nil _ _, OO.nil _ _, Bset4 NN.out (by omega) _ _ _ _⟩
 have t_f1 : decide (0 ≤ findL os nm.toList) = false := decide_eq_false f1
 by_cases m1 : 16 ≤ os.length
 ·have t_m1 : decide ((16 : Int) ≤ (os.length : Int)) = true := decide_eq_true (by omega)
  have E := putE_many (b := b) ck n1 f1 (.inl m1)
  have S := putS_bad E (by first | exact ck | decide)
  rw [E, S]
  clear E S
  go_enter Try.func14, Try.ntmps14
  go_upto_region 1 with fail
  have SB : Hid (((w.alloc (.cells #[.int .i64 d, .int .i64 p, .slice D ds.length cd, .slice A os.length ca] 25)).alloc (.cells #[.int .i64 0, .int .i64 0, .slice none 0 0, .slice none 0 0] 25)).heap[w.heap.size]? = some (.cells #[.int .i64 d, .int .i64 p, .slice D ds.length cd, .slice A os.length ca] 25)) := Lib.hid (blk_alloc (blk_new w _) _)
  have XB : Hid (((w.alloc (.cells #[.int .i64 d, .int .i64 p, .slice D ds.length cd, .slice A os.length ca] 25)).alloc (.cells #[.int .i64 0, .int .i64 0, .slice none 0 0, .slice none 0 0] 25)).heap[w.heap.size + 1]? = some (.cells #[.int .i64 0, .int .i64 0, .slice none 0 0, .slice none 0 0] 25)) := Lib.hid (blk_at _ (by simp))
  have NN : Hid (Below w.heap.size w ((w.alloc (.cells #[.int .i64 d, .int .i64 p, .slice D ds.length cd, .slice A os.length ca] 25)).alloc (.cells #[.int .i64 0, .int .i64 0, .slice none 0 0, .slice none 0 0] 25))) := Lib.hid (Bal (Bal (Below.refl _ _) _) _)
  generalize ((w.alloc (.cells #[.int .i64 d, .int .i64 p, .slice D ds.length cd, .slice A os.length ca] 25)).alloc (.cells #[.int .i64 0, .int .i64 0, .slice none 0 0, .slice none 0 0] 25)) = W0 at *
  have s0 := blk_cell SB.out 0 _ rfl
  have s1 := blk_cell SB.out 1 _ rfl
  have s2 := blk_cell SB.out 2 _ rfl
  have s3 := blk_cell SB.out 3 _ rfl
  have ls := blk_lt SB.out
  go_wp2_with fail
  clear s0 s1 s2 s3 ls
  refine (open_ok d p D A cd ca B ds os _ hnd hcd hna hca (HD.out.next NN.out) (HS.out.next NN.out) HL.out ck).mono ?_
  rintro e w1 ⟨v, u, rfl, ht, hu, hb⟩
  have T := Lib.hid (ht.mono NN.out.size)
  have U := Lib.hid (hu.mono NN.out.size)
  clear ht hu
  simp only at T U
  obtain ⟨Av, cv, rfl, hv1, hv2⟩ := T.out.form
  obtain ⟨Au, cu, rfl, hu1, hu2⟩ := U.out.form
  replace SB := Lib.hid (blk_next hb SB.out)
  replace XB := Lib.hid (blk_next hb XB.out)
  replace NN := Lib.hid (Bgo NN.out hb)
  clear hb
  go_upto_region 2 with fail
  have HB : Hid ((w1.alloc (.cells #[.int .i64 d, .int .i64 p, .slice Av ds.length cv, .slice Au os.length cu, .int .i64 (strN os), .int .i64 (faN ds)] 79)).heap[w1.heap.size]? = some (.cells #[.int .i64 d, .int .i64 p, .slice Av ds.length cv, .slice Au os.length cu, .int .i64 (strN os), .int .i64 (faN ds)] 79)) := Lib.hid (blk_new _ _)
  have B9 : Below w1.heap.size w1 (w1.alloc (.cells #[.int .i64 d, .int .i64 p, .slice Av ds.length cv, .slice Au os.length cu, .int .i64 (strN os), .int .i64 (faN ds)] 79)) := Bal (Below.refl _ _) _
  have LX : w.heap.size + 1 < w1.heap.size := blk_lt XB.out
  replace SB := Lib.hid (blk_next B9 SB.out)
  replace XB := Lib.hid (blk_next B9 XB.out)
  replace NN := Lib.hid (Bgo NN.out B9)
  replace T := Lib.hid (T.out.next B9)
  replace U := Lib.hid (U.out.next B9)
  clear B9
  generalize (w1.alloc (.cells #[.int .i64 d, .int .i64 p, .slice Av ds.length cv, .slice Au os.length cu, .int .i64 (strN os), .int .i64 (faN ds)] 79)) = W1 at *
  generalize w1.heap.size = gh at *
  have h0 := blk_cell HB.out 0 _ rfl
  have h1 := blk_cell HB.out 1 _ rfl
  have h2 := blk_cell HB.out 2 _ rfl
  have h3 := blk_cell HB.out 3 _ rfl
  have h4 := blk_cell HB.out 4 _ rfl
  have h5 := blk_cell HB.out 5 _ rfl
  have lh := blk_lt HB.out
  go_wp2_with fail
  clear h0 h1 h2 h3 h4 h5 lh
  refine (NC.out _).mono ?_
  rintro e w2 ⟨rfl, hb⟩
  replace SB := Lib.hid (blk_next hb SB.out)
  replace XB := Lib.hid (blk_next hb XB.out)
  replace HB := Lib.hid (blk_next hb HB.out)
  replace NN := Lib.hid (Bgo NN.out hb)
  replace T := Lib.hid (T.out.next hb)
  replace U := Lib.hid (U.out.next hb)
  clear hb
  have h0 := blk_cell HB.out 0 _ rfl
  have h1 := blk_cell HB.out 1 _ rfl
  have h2 := blk_cell HB.out 2 _ rfl
  have h3 := blk_cell HB.out 3 _ rfl
  have h4 := blk_cell HB.out 4 _ rfl
  have h5 := blk_cell HB.out 5 _ rfl
  have lh := blk_lt HB.out
  go_wp2_with fail
  clear h0 h1 h2 h3 h4 h5 lh
  refine (oFind_calls Au cu w.heap.size os nm _ hu1 hu2 U.out.ro).mono ?_
  rintro e w3 ⟨rfl, hb⟩
  replace SB := Lib.hid (blk_next hb SB.out)
  replace XB := Lib.hid (blk_next hb XB.out)
  replace HB := Lib.hid (blk_next hb HB.out)
  replace NN := Lib.hid (Bgo NN.out hb)
  replace T := Lib.hid (T.out.next hb)
  replace U := Lib.hid (U.out.next hb)
  clear hb
  have h0 := blk_cell HB.out 0 _ rfl
  have h1 := blk_cell HB.out 1 _ rfl
  have h2 := blk_cell HB.out 2 _ rfl
  have h3 := blk_cell HB.out 3 _ rfl
  have h4 := blk_cell HB.out 4 _ rfl
  have h5 := blk_cell HB.out 5 _ rfl
  have lh := blk_lt HB.out
  have x0 := blk_cell XB.out 0 _ rfl
  have fx0 := blk_frozen XB.out 0
  have x1 := blk_cell XB.out 1 _ rfl
  have fx1 := blk_frozen XB.out 1
  have x2 := blk_cell XB.out 2 _ rfl
  have fx2 := blk_frozen XB.out 2
  have x3 := blk_cell XB.out 3 _ rfl
  have fx3 := blk_frozen XB.out 3
  have lx := blk_lt XB.out
  go_wp2_with fail
  have Z := blk_set4 XB.out (.int .i64 0) (.int .i64 0) (.slice none 0 0) (.slice none 0 0)
  have e0 := blk_cell Z 0 _ rfl
  have e1 := blk_cell Z 1 _ rfl
  have e2 := blk_cell Z 2 _ rfl
  have e3 := blk_cell Z 3 _ rfl
  exact bodyPost_ret (v := .tuple #[Tv 0 0 (.slice none 0 0) (.slice none 0 0), .int .i64 (4)]) (by simp [results, Try.results14, go_sem, e0, e1, e2, e3]) rfl ⟨_, _, rfl, OT.nil _ _, OO.nil _ _, Bset4 NN.out (by omega) _ _ _ _⟩
 have t_m1 : decide ((16 : Int) ≤ (os.length : Int)) = false := decide_eq_false (by omega)
 by_cases m2 : 256 < b.length
 ·have t_m2 : decide ((256 : Int) < (b.length : Int)) = true := decide_eq_true (by omega)
  have E := putE_many ck n1 f1 (.inr m2)
  have S := putS_bad E (by first | exact ck | decide)
  rw [E, S]
  clear E S
  go_enter Try.func14, Try.ntmps14
  go_upto_region 1 with fail
  have SB : Hid (((w.alloc (.cells #[.int .i64 d, .int .i64 p, .slice D ds.length cd, .slice A os.length ca] 25)).alloc (.cells #[.int .i64 0, .int .i64 0, .slice none 0 0, .slice none 0 0] 25)).heap[w.heap.size]? = some (.cells #[.int .i64 d, .int .i64 p, .slice D ds.length cd, .slice A os.length ca] 25)) := Lib.hid (blk_alloc (blk_new w _) _)
  have XB : Hid (((w.alloc (.cells #[.int .i64 d, .int .i64 p, .slice D ds.length cd, .slice A os.length ca] 25)).alloc (.cells #[.int .i64 0, .int .i64 0, .slice none 0 0, .slice none 0 0] 25)).heap[w.heap.size + 1]? = some (.cells #[.int .i64 0, .int .i64 0, .slice none 0 0, .slice none 0 0] 25)) := Lib.hid (blk_at _ (by simp))
  have NN : Hid (Below w.heap.size w ((w.alloc (.cells #[.int .i64 d, .int .i64 p, .slice D ds.length cd, .slice A os.length ca] 25)).alloc (.cells #[.int .i64 0, .int .i64 0, .slice none 0 0, .slice none 0 0] 25))) := Lib.hid (Bal (Bal (Below.refl _ _) _) _)
  generalize ((w.alloc (.cells #[.int .i64 d, .int .i64 p, .slice D ds.length cd, .slice A os.length ca] 25)).alloc (.cells #[.int .i64 0, .int .i64 0, .slice none 0 0, .slice none 0 0] 25)) = W0 at *
  have s0 := blk_cell SB.out 0 _ rfl
  have s1 := blk_cell SB.out 1 _ rfl
  have s2 := blk_cell SB.out 2 _ rfl
  have s3 := blk_cell SB.out 3 _ rfl
  have ls := blk_lt SB.out
  go_wp2_with fail
  clear s0 s1 s2 s3 ls
  refine (open_ok d p D A cd ca B ds os _ hnd hcd hna hca (HD.out.next NN.out) (HS.out.next NN.out) HL.out ck).mono ?_
  rintro e w1 ⟨v, u, rfl, ht, hu, hb⟩
  have T := Lib.hid (ht.mono NN.out.size)
  have U := Lib.hid (hu.mono NN.out.size)
  clear ht hu
  simp only at T U
  obtain ⟨Av, cv, rfl, hv1, hv2⟩ := T.out.form
  obtain ⟨Au, cu, rfl, hu1, hu2⟩ := U.out.form
  replace SB := Lib.hid (blk_next hb SB.out)
  replace XB := Lib.hid (blk_next hb XB.out)
  replace NN := Lib.hid (Bgo NN.out hb)
  clear hb
  go_upto_region 2 with fail
  have HB : Hid ((w1.alloc (.cells #[.int .i64 d, .int .i64 p, .slice Av ds.length cv, .slice Au os.length cu, .int .i64 (strN os), .int .i64 (faN ds)] 79)).heap[w1.heap.size]? = some (.cells #[.int .i64 d, .int .i64 p, .slice Av ds.length cv, .slice Au os.length cu, .int .i64 (strN os), .int .i64 (faN ds)] 79)) := Lib.hid (blk_new _ _)
  have B9 : Below w1.heap.size w1 (w1.alloc (.cells #[.int .i64 d, .int .i64 p, .slice Av ds.length cv, .slice Au os.length cu, .int .i64 (strN os), .int .i64 (faN ds)] 79)) := Bal (Below.refl _ _) _
  have LX : w.heap.size + 1 < w1.heap.size := blk_lt XB.out
  replace SB := Lib.hid (blk_next B9 SB.out)
  replace XB := Lib.hid (blk_next B9 XB.out)
  replace NN := Lib.hid (Bgo NN.out B9)
  replace T := Lib.hid (T.out.next B9)
  replace U := Lib.hid (U.out.next B9)
  clear B9
  generalize (w1.alloc (.cells #[.int .i64 d, .int .i64 p, .slice Av ds.length cv, .slice Au os.length cu, .int .i64 (strN os), .int .i64 (faN ds)] 79)) = W1 at *
  generalize w1.heap.size = gh at *
  have h0 := blk_cell HB.out 0 _ rfl
  have h1 := blk_cell HB.out 1 _ rfl
  have h2 := blk_cell HB.out 2 _ rfl
  have h3 := blk_cell HB.out 3 _ rfl
  have h4 := blk_cell HB.out 4 _ rfl
  have h5 := blk_cell HB.out 5 _ rfl
  have lh := blk_lt HB.out
  go_wp2_with fail
  clear h0 h1 h2 h3 h4 h5 lh
  refine (NC.out _).mono ?_
  rintro e w2 ⟨rfl, hb⟩
  replace SB := Lib.hid (blk_next hb SB.out)
  replace XB := Lib.hid (blk_next hb XB.out)
  replace HB := Lib.hid (blk_next hb HB.out)
  replace NN := Lib.hid (Bgo NN.out hb)
  replace T := Lib.hid (T.out.next hb)
  replace U := Lib.hid (U.out.next hb)
  clear hb
  have h0 := blk_cell HB.out 0 _ rfl
  have h1 := blk_cell HB.out 1 _ rfl
  have h2 := blk_cell HB.out 2 _ rfl
  have h3 := blk_cell HB.out 3 _ rfl
  have h4 := blk_cell HB.out 4 _ rfl
  have h5 := blk_cell HB.out 5 _ rfl
  have lh := blk_lt HB.out
  go_wp2_with fail
  clear h0 h1 h2 h3 h4 h5 lh
  refine (oFind_calls Au cu w.heap.size os nm _ hu1 hu2 U.out.ro).mono ?_
  rintro e w3 ⟨rfl, hb⟩
  replace SB := Lib.hid (blk_next hb SB.out)
  replace XB := Lib.hid (blk_next hb XB.out)
  replace HB := Lib.hid (blk_next hb HB.out)
  replace NN := Lib.hid (Bgo NN.out hb)
  replace T := Lib.hid (T.out.next hb)
  replace U := Lib.hid (U.out.next hb)
  clear hb
  have h0 := blk_cell HB.out 0 _ rfl
  have h1 := blk_cell HB.out 1 _ rfl
  have h2 := blk_cell HB.out 2 _ rfl
  have h3 := blk_cell HB.out 3 _ rfl
  have h4 := blk_cell HB.out 4 _ rfl
  have h5 := blk_cell HB.out 5 _ rfl
  have lh := blk_lt HB.out
  have x0 := blk_cell XB.out 0 _ rfl
  have fx0 := blk_frozen XB.out 0
  have x1 := blk_cell XB.out 1 _ rfl
  have fx1 := blk_frozen XB.out 1
  have x2 := blk_cell XB.out 2 _ rfl
  have fx2 := blk_frozen XB.out 2
  have x3 := blk_cell XB.out 3 _ rfl
  have fx3 := blk_frozen XB.out 3
  have lx := blk_lt XB.out
  go_wp2_with fail
  have Z := blk_set4 XB.out (.int .i64 0) (.int .i64 0) (.slice none 0 0) (.slice none 0 0)
  have e0 := blk_cell Z 0 _ rfl
  have e1 := blk_cell Z 1 _ rfl
  have e2 := blk_cell Z 2 _ rfl
  have e3 := blk_cell Z 3 _ rfl
  exact bodyPost_ret (v := .tuple #[Tv 0 0 (.slice none 0 0) (.slice none 0 0), .int .i64 (4)]) (by simp [results, Try.results14, go_sem, e0, e1, e2, e3]) rfl ⟨_, _, rfl, OT.nil _ _, OO.nil _ _, Bset4 NN.out (by omega) _ _ _ _⟩
 have t_m2 : decide ((256 : Int) < (b.length : Int)) = false := decide_eq_false (by omega)
 by_cases l1 : p < (faN ds : Int)
 ·have t_l1 : decide (p < (faN ds : Int)) = true := decide_eq_true l1
  have E := putE_lost (b := b) ck n1 f1 (by omega) l1
  have S := putS_bad E (by first | exact ck | decide)
  rw [E, S]
  clear E S
  go_enter Try.func14, Try.ntmps14
  go_upto_region 1 with fail
  have SB : Hid (((w.alloc (.cells #[.int .i64 d, .int .i64 p, .slice D ds.length cd, .slice A os.length ca] 25)).alloc (.cells #[.int .i64 0, .int .i64 0, .slice none 0 0, .slice none 0 0] 25)).heap[w.heap.size]? = some (.cells #[.int .i64 d, .int .i64 p, .slice D ds.length cd, .slice A os.length ca] 25)) := Lib.hid (blk_alloc (blk_new w _) _)
  have XB : Hid (((w.alloc (.cells #[.int .i64 d, .int .i64 p, .slice D ds.length cd, .slice A os.length ca] 25)).alloc (.cells #[.int .i64 0, .int .i64 0, .slice none 0 0, .slice none 0 0] 25)).heap[w.heap.size + 1]? = some (.cells #[.int .i64 0, .int .i64 0, .slice none 0 0, .slice none 0 0] 25)) := Lib.hid (blk_at _ (by simp))
  have NN : Hid (Below w.heap.size w ((w.alloc (.cells #[.int .i64 d, .int .i64 p, .slice D ds.length cd, .slice A os.length ca] 25)).alloc (.cells #[.int .i64 0, .int .i64 0, .slice none 0 0, .slice none 0 0] 25))) := Lib.hid (Bal (Bal (Below.refl _ _) _) _)
  generalize ((w.alloc (.cells #[.int .i64 d, .int .i64 p, .slice D ds.length cd, .slice A os.length ca] 25)).alloc (.cells #[.int .i64 0, .int .i64 0, .slice none 0 0, .slice none 0 0] 25)) = W0 at *
  have s0 := blk_cell SB.out 0 _ rfl
  have s1 := blk_cell SB.out 1 _ rfl
  have s2 := blk_cell SB.out 2 _ rfl
  have s3 := blk_cell SB.out 3 _ rfl
  have ls := blk_lt SB.out
  go_wp2_with fail
  clear s0 s1 s2 s3 ls
  refine (open_ok d p D A cd ca B ds os _ hnd hcd hna hca (HD.out.next NN.out) (HS.out.next NN.out) HL.out ck).mono ?_
  rintro e w1 ⟨v, u, rfl, ht, hu, hb⟩
  have T := Lib.hid (ht.mono NN.out.size)
  have U := Lib.hid (hu.mono NN.out.size)
  clear ht hu
  simp only at T U
  obtain ⟨Av, cv, rfl, hv1, hv2⟩ := T.out.form
  obtain ⟨Au, cu, rfl, hu1, hu2⟩ := U.out.form
  replace SB := Lib.hid (blk_next hb SB.out)
  replace XB := Lib.hid (blk_next hb XB.out)
  replace NN := Lib.hid (Bgo NN.out hb)
  clear hb
  go_upto_region 2 with fail
  have HB : Hid ((w1.alloc (.cells #[.int .i64 d, .int .i64 p, .slice Av ds.length cv, .slice Au os.length cu, .int .i64 (strN os), .int .i64 (faN ds)] 79)).heap[w1.heap.size]? = some (.cells #[.int .i64 d, .int .i64 p, .slice Av ds.length cv, .slice Au os.length cu, .int .i64 (strN os), .int .i64 (faN ds)] 79)) := Lib.hid (blk_new _ _)
  have B9 : Below w1.heap.size w1 (w1.alloc (.cells #[.int .i64 d, .int .i64 p, .slice Av ds.length cv, .slice Au os.length cu, .int .i64 (strN os), .int .i64 (faN ds)] 79)) := Bal (Below.refl _ _) _
  have LX : w.heap.size + 1 < w1.heap.size := blk_lt XB.out
  replace SB := Lib.hid (blk_next B9 SB.out)
  replace XB := Lib.hid (blk_next B9 XB.out)
  replace NN := Lib.hid (Bgo NN.out B9)
  replace T := Lib.hid (T.out.next B9)
  replace U := Lib.hid (U.out.next B9)
  clear B9
  generalize (w1.alloc (.cells #[.int .i64 d, .int .i64 p, .slice Av ds.length cv, .slice Au os.length cu, .int .i64 (strN os), .int .i64 (faN ds)] 79)) = W1 at *
  generalize w1.heap.size = gh at *
  have h0 := blk_cell HB.out 0 _ rfl
  have h1 := blk_cell HB.out 1 _ rfl
  have h2 := blk_cell HB.out 2 _ rfl
  have h3 := blk_cell HB.out 3 _ rfl
  have h4 := blk_cell HB.out 4 _ rfl
  have h5 := blk_cell HB.out 5 _ rfl
  have lh := blk_lt HB.out
  go_wp2_with fail
  clear h0 h1 h2 h3 h4 h5 lh
  refine (NC.out _).mono ?_
  rintro e w2 ⟨rfl, hb⟩
  replace SB := Lib.hid (blk_next hb SB.out)
  replace XB := Lib.hid (blk_next hb XB.out)
  replace HB := Lib.hid (blk_next hb HB.out)
  replace NN := Lib.hid (Bgo NN.out hb)
  replace T := Lib.hid (T.out.next hb)
  replace U := Lib.hid (U.out.next hb)
  clear hb
  have h0 := blk_cell HB.out 0 _ rfl
  have h1 := blk_cell HB.out 1 _ rfl
  have h2 := blk_cell HB.out 2 _ rfl
  have h3 := blk_cell HB.out 3 _ rfl
  have h4 := blk_cell HB.out 4 _ rfl
  have h5 := blk_cell HB.out 5 _ rfl
  have lh := blk_lt HB.out
  go_wp2_with fail
  clear h0 h1 h2 h3 h4 h5 lh
  refine (oFind_calls Au cu w.heap.size os nm _ hu1 hu2 U.out.ro).mono ?_
  rintro e w3 ⟨rfl, hb⟩
  replace SB := Lib.hid (blk_next hb SB.out)
  replace XB := Lib.hid (blk_next hb XB.out)
  replace HB := Lib.hid (blk_next hb HB.out)
  replace NN := Lib.hid (Bgo NN.out hb)
  replace T := Lib.hid (T.out.next hb)
  replace U := Lib.hid (U.out.next hb)
  clear hb
  have h0 := blk_cell HB.out 0 _ rfl
  have h1 := blk_cell HB.out 1 _ rfl
  have h2 := blk_cell HB.out 2 _ rfl
  have h3 := blk_cell HB.out 3 _ rfl
  have h4 := blk_cell HB.out 4 _ rfl
  have h5 := blk_cell HB.out 5 _ rfl
  have lh := blk_lt HB.out
  have x0 := blk_cell XB.out 0 _ rfl
  have fx0 := blk_frozen XB.out 0
  have x1 := blk_cell XB.out 1 _ rfl
  have fx1 := blk_frozen XB.out 1
  have x2 := blk_cell XB.out 2 _ rfl
  have fx2 := blk_frozen XB.out 2
  have x3 := blk_cell XB.out 3 _ rfl
  have fx3 := blk_frozen XB.out 3
  have lx := blk_lt XB.out
  go_wp2_with fail
  have Z := blk_set4 XB.out (.int .i64 0) (.int .i64 0) (.slice none 0 0) (.slice none 0 0)
  have e0 := blk_cell Z 0 _ rfl
  have e1 := blk_cell Z 1 _ rfl
  have e2 := blk_cell Z 2 _ rfl
  have e3 := blk_cell Z 3 _ rfl
  exact bodyPost_ret (v := .tuple #[Tv 0 0 (.slice none 0 0) (.slice none 0 0), .int .i64 (32)]) (by simp [results, Try.results14, go_sem, e0, e1, e2, e3]) rfl ⟨_, _, rfl, OT.nil _ _, OO.nil _ _, Bset4 NN.out (by omega) _ _ _ _⟩
 have t_l1 : decide (p < (faN ds : Int)) = false := decide_eq_false l1
 have E := putE_ok (b := b) ck n1 f1 (by omega) l1
 have S := putS_ok E
 rw [E, S]
 clear E S
 have bb := HBB.out.1
 have hd1 := OK.out.d1
 have hd8 := OK.out.d8
 have hp0 := OK.out.p0
 have hp4 := OK.out.p4
 obtain ⟨dn, hdn⟩ : ∃ n : Nat, d = (n : Int) := ⟨d.toNat, by omega⟩
 obtain ⟨pn, hpn⟩ : ∃ n : Nat, p = (n : Int) := ⟨p.toNat, by omega⟩
 obtain ⟨mn, hmn, mn38, hfit⟩ := ned_fit (n := b.length) (d := dn) (by omega) (by omega) (by omega)
 have EM : manyL d b = mn := by unfold manyL; rw [hdn, hmn, Int.toNat_natCast]
 have EQ : Hid (padB d b = padL b (mn * 8 * dn)) := Lib.hid (by unfold padB; rw [EM, hdn, Int.toNat_natCast])
 have dtn : d.toNat = dn := by omega
 have ptn : p.toNat = pn := by omega
 rw [EM, dtn, ptn]
 have EO : Hid (newO d os nm b = ⟨nm, b.length, strN os, (mn : Int), (digL b : Nat)⟩) := Lib.hid (by unfold newO; rw [hdn, hmn])
 have QL : Hid ((padB d b).length = mn * 8 * dn) := Lib.hid (by rw [EQ.out]; exact padL_len hfit)
 have QB : Hid (Byt (padB d b)) := Lib.hid (by rw [EQ.out]; exact padL_byt bb)
 generalize padB d b = q at *
 generalize newO d os nm b = nob at *
 have dn1 : 1 ≤ dn := by omega
 have dn8 : dn ≤ 8 := by omega
 have pn4 : pn ≤ 4 := by omega
 obtain ⟨tot, htot⟩ : ∃ tot : Nat, tot = mn * 8 * dn := ⟨_, rfl⟩
 have tot9 : tot ≤ 2500 := by rw [htot]; have := Nat.mul_le_mul (Nat.mul_le_mul_right 8 mn38) dn8; omega
 have ND := Lib.hid (fun W => calls_below (needed_calls (b.length : Int) d W (by omega) (by omega) hd1 hd8))
 rw [hdn, hmn, ← hdn] at ND
 have g1 : IntKind.i64.wrap ((mn : Int) * 8) = (mn : Int) * 8 := IntWalk.i64_in _ (by omega)
 have g2 : (mn : Int) * 8 * d = (tot : Int) := by rw [hdn, htot]; push_cast; rfl
 have g3 : IntKind.i64.wrap (tot : Int) = (tot : Int) := IntWalk.i64_in _ (by omega)
 have mk1 : ∀ W : World, _ := fun W => make_row W tot (by omega)
 have DN := Lib.hid hdn
 have PN := Lib.hid hpn
 have HTOT := Lib.hid htot
 have HFIT := Lib.hid hfit
 have hbt : b.length ≤ tot := by rw [htot]; exact hfit
 have n20 : ds.length ≤ 12 := by have := OK.out.len; omega
 have hl0 : 0 < ds.length := by have := OK.out.len; omega
 clear hdn hpn htot hfit EM dtn ptn hmn n1 bb
 go_enter Try.func14, Try.ntmps14
 go_upto_region 1 with fail
 have SB : Hid (((w.alloc (.cells #[.int .i64 d, .int .i64 p, .slice D ds.length cd, .slice A os.length ca] 25)).alloc (.cells #[.int .i64 0, .int .i64 0, .slice none 0 0, .slice none 0 0] 25)).heap[w.heap.size]? = some (.cells #[.int .i64 d, .int .i64 p, .slice D ds.length cd, .slice A os.length ca] 25)) := Lib.hid (blk_alloc (blk_new w _) _)
 have XB : Hid (((w.alloc (.cells #[.int .i64 d, .int .i64 p, .slice D ds.length cd, .slice A os.length ca] 25)).alloc (.cells #[.int .i64 0, .int .i64 0, .slice none 0 0, .slice none 0 0] 25)).heap[w.heap.size + 1]? = some (.cells #[.int .i64 0, .int .i64 0, .slice none 0 0, .slice none 0 0] 25)) := Lib.hid (blk_at _ (by simp))
 have NN : Hid (Below w.heap.size w ((w.alloc (.cells #[.int .i64 d, .int .i64 p, .slice D ds.length cd, .slice A os.length ca] 25)).alloc (.cells #[.int .i64 0, .int .i64 0, .slice none 0 0, .slice none 0 0] 25))) := Lib.hid (Bal (Bal (Below.refl _ _) _) _)
 generalize ((w.alloc (.cells #[.int .i64 d, .int .i64 p, .slice D ds.length cd, .slice A os.length ca] 25)).alloc (.cells #[.int .i64 0, .int .i64 0, .slice none 0 0, .slice none 0 0] 25)) = W0 at *
 have s0 := blk_cell SB.out 0 _ rfl
 have s1 := blk_cell SB.out 1 _ rfl
 have s2 := blk_cell SB.out 2 _ rfl
 have s3 := blk_cell SB.out 3 _ rfl
 have ls := blk_lt SB.out
 go_wp2_with fail
 clear s0 s1 s2 s3 ls
 refine (open_ok d p D A cd ca B ds os _ hnd hcd hna hca (HD.out.next NN.out) (HS.out.next NN.out) HL.out ck).mono ?_
 rintro e w1 ⟨v, u, rfl, ht, hu, hb⟩
 have T := Lib.hid (ht.mono NN.out.size)
 have U := Lib.hid (hu.mono NN.out.size)
 clear ht hu
 simp only at T U
 obtain ⟨Av, cv, rfl, hv1, hv2⟩ := T.out.form
 obtain ⟨Au, cu, rfl, hu1, hu2⟩ := U.out.form
 replace SB := Lib.hid (blk_next hb SB.out)
 replace XB := Lib.hid (blk_next hb XB.out)
 replace NN := Lib.hid (Bgo NN.out hb)
 clear hb
 go_upto_region 2 with fail
 have HB : Hid ((w1.alloc (.cells #[.int .i64 d, .int .i64 p, .slice Av ds.length cv, .slice Au os.length cu, .int .i64 (strN os), .int .i64 (faN ds)] 79)).heap[w1.heap.size]? = some (.cells #[.int .i64 d, .int .i64 p, .slice Av ds.length cv, .slice Au os.length cu, .int .i64 (strN os), .int .i64 (faN ds)] 79)) := Lib.hid (blk_new _ _)
 have B9 : Below w1.heap.size w1 (w1.alloc (.cells #[.int .i64 d, .int .i64 p, .slice Av ds.length cv, .slice Au os.length cu, .int .i64 (strN os), .int .i64 (faN ds)] 79)) := Bal (Below.refl _ _) _
 have LX : w.heap.size + 1 < w1.heap.size := blk_lt XB.out
 replace SB := Lib.hid (blk_next B9 SB.out)
 replace XB := Lib.hid (blk_next B9 XB.out)
 replace NN := Lib.hid (Bgo NN.out B9)
 replace T := Lib.hid (T.out.next B9)
 replace U := Lib.hid (U.out.next B9)
 clear B9
 generalize (w1.alloc (.cells #[.int .i64 d, .int .i64 p, .slice Av ds.length cv, .slice Au os.length cu, .int .i64 (strN os), .int .i64 (faN ds)] 79)) = W1 at *
 generalize w1.heap.size = gh at *
 have h0 := blk_cell HB.out 0 _ rfl
 have h1 := blk_cell HB.out 1 _ rfl
 have h2 := blk_cell HB.out 2 _ rfl
 have h3 := blk_cell HB.out 3 _ rfl
 have h4 := blk_cell HB.out 4 _ rfl
 have h5 := blk_cell HB.out 5 _ rfl
 have lh := blk_lt HB.out
 go_wp2_with fail
 clear h0 h1 h2 h3 h4 h5 lh
 refine (NC.out _).mono ?_
 rintro e w2 ⟨rfl, hb⟩
 replace SB := Lib.hid (blk_next hb SB.out)
 replace XB := Lib.hid (blk_next hb XB.out)
 replace HB := Lib.hid (blk_next hb HB.out)
 replace NN := Lib.hid (Bgo NN.out hb)
 replace T := Lib.hid (T.out.next hb)
 replace U := Lib.hid (U.out.next hb)
 clear hb
 have h0 := blk_cell HB.out 0 _ rfl
 have h1 := blk_cell HB.out 1 _ rfl
 have h2 := blk_cell HB.out 2 _ rfl
 have h3 := blk_cell HB.out 3 _ rfl
 have h4 := blk_cell HB.out 4 _ rfl
 have h5 := blk_cell HB.out 5 _ rfl
 have lh := blk_lt HB.out
 go_wp2_with fail
 clear h0 h1 h2 h3 h4 h5 lh
 refine (oFind_calls Au cu w.heap.size os nm _ hu1 hu2 U.out.ro).mono ?_
 rintro e w3 ⟨rfl, hb⟩
 replace SB := Lib.hid (blk_next hb SB.out)
 replace XB := Lib.hid (blk_next hb XB.out)
 replace HB := Lib.hid (blk_next hb HB.out)
 replace NN := Lib.hid (Bgo NN.out hb)
 replace T := Lib.hid (T.out.next hb)
 replace U := Lib.hid (U.out.next hb)
 clear hb
 have h0 := blk_cell HB.out 0 _ rfl
 have h1 := blk_cell HB.out 1 _ rfl
 have h2 := blk_cell HB.out 2 _ rfl
 have h3 := blk_cell HB.out 3 _ rfl
 have h4 := blk_cell HB.out 4 _ rfl
 have h5 := blk_cell HB.out 5 _ rfl
 have lh := blk_lt HB.out
 go_wp2_with fail
 clear h0 h1 h2 h3 h4 h5 lh
 refine (ND.out _).mono ?_
 rintro e w4 ⟨rfl, hb⟩
 replace SB := Lib.hid (blk_next hb SB.out)
 replace XB := Lib.hid (blk_next hb XB.out)
 replace HB := Lib.hid (blk_next hb HB.out)
 replace NN := Lib.hid (Bgo NN.out hb)
 replace T := Lib.hid (T.out.next hb)
 replace U := Lib.hid (U.out.next hb)
 clear hb
 have h0 := blk_cell HB.out 0 _ rfl
 have h1 := blk_cell HB.out 1 _ rfl
 have h2 := blk_cell HB.out 2 _ rfl
 have h3 := blk_cell HB.out 3 _ rfl
 have h4 := blk_cell HB.out 4 _ rfl
 have h5 := blk_cell HB.out 5 _ rfl
 have lh := blk_lt HB.out
 skip
 go_upto_region 14 with fail
 clear h0 h1 h2 h3 h4 h5 lh
 have PZ : Hid ((w4.alloc (.cells (madeCells #[.int .u8 0] tot) 5)).heap[w4.heap.size]? = some (.cells (bv (List.replicate tot 0)).toArray 5)) := Lib.hid (by rw [← bv_zeros]; exact blk_new _ _)
 have B9 : Below w4.heap.size w4 (w4.alloc (.cells (madeCells #[.int .u8 0] tot) 5)) := Bal (Below.refl _ _) _
 have LG : w.heap.size + 1 < w4.heap.size ∧ gh < w4.heap.size := ⟨blk_lt XB.out, blk_lt HB.out⟩
 have LW4 := NN.out.size
 have HB4 : Hid (RBA Bb w4 Ab b) := Lib.hid (RBA.next NN.out HBB.out)
 have HPZ := Lib.hid (hd_addr (Hd.next B9 HB4.out.2))
 generalize (w4.alloc (.cells (madeCells #[.int .u8 0] tot) 5)) = W4 at *
 go_wp2_with (with_reducible show wpList _ _ _ _ _ _; refine wpList_copy_splice (o := ⟨some 71, _, _, _, _, _⟩) rfl (.tmp 69) (.tmp 70) 26 26 rfl 5 Try.underlying26 (by kernel_rfl) (some ⟨w4.heap.size, 0, none⟩) Ab tot tot b.length cb rfl rfl w4.heap.size 0 (bv (List.replicate tot 0)) 5 PZ.out (bv b) (by rw [bv_len]; exact (Nat.min_eq_left hbt).symm) (fun h => ⟨rfl, HPZ.out h⟩) (by rw [bv_len, bv_len, List.length_replicate]; omega) (bv_one b) w4.heap.size W4 (Below.refl _ _) (Nat.le_refl _) ?_; intro w5 hg5 hb5)
 have B5 := B9.trans hb5
 have PD : Hid (w5.heap[w4.heap.size]? = some (.cells (bv q).toArray 5)) := Lib.hid (by rw [EQ.out, ← HTOT.out, ← splice_pad hbt]; exact hg5.out)
 clear B9 hb5 hg5 HPZ HB4 PZ
 replace SB := Lib.hid (blk_next B5 SB.out)
 replace XB := Lib.hid (blk_next B5 XB.out)
 replace HB := Lib.hid (blk_next B5 HB.out)
 replace NN := Lib.hid (Bgo NN.out B5)
 replace T := Lib.hid (T.out.next B5)
 replace U := Lib.hid (U.out.next B5)
 clear B5
 generalize w4.heap.size = gp at *
 skip
 obtain ⟨g, hs0, us0, rfl, O, hg, hgB⟩ := T.out.some_ hl0
 have HO := Lib.hid O
 clear O T
 have mk2 : ∀ W : World, (Instr.makeSlice 44 (.int .i64 d) (.int .i64 d)).run Try.prog W = .ok (.slice (some ⟨W.heap.size, 0, none⟩) dn dn) (W.alloc (.cells (madeCells #[.slice none 0 0] dn) 26)) := fun W => by rw [DN.out]; exact make_rows W dn (by omega)
 go_loopw [11, 73] (fun v i wr => ∃ (k : Nat) (A1 : Option Addr) (hs : List Value) (us : List (List Value)), k ≤ mn ∧ i = .int .i64 k ∧ v = .slice A1 (tot - k * dn * 8) (tot - k * dn * 8) ∧ Hid (k * dn * 8 < tot → A1 = some ⟨gp, k * dn * 8, none⟩) ∧ Hid (Below w.heap.size w wr) ∧ Hid (OS w.heap.size wr (.slice (some ⟨g, 0, none⟩) ds.length cv) hs us (putDs dn pn q k ds)) ∧ Hid (OO w.heap.size wr (.slice Au os.length cu) os) ∧ Hid (wr.heap[gh]? = some (.cells #[.int .i64 d, .int .i64 p, .slice (some ⟨g, 0, none⟩) ds.length cv, .slice Au os.length cu, .int .i64 (strN os), .int .i64 (faN ds)] 79)) ∧ Hid (wr.heap[w.heap.size + 1]? = some (.cells #[.int .i64 0, .int .i64 0, .slice none 0 0, .slice none 0 0] 25)) ∧ Hid (wr.heap[gp]? = some (.cells (bv q).toArray 5))) (fun _ i _ => mn - (intOf i).toNat)
 case atStart => exact ⟨0, some ⟨gp, 0, none⟩, hs0, us0, by omega, rfl, by simp, Lib.hid (by simp), NN, Lib.hid (by rw [putDs_zero]; exact HO.out), U, HB, XB, PD⟩
 case round =>
  clear NN U HB XB PD HO
  obtain ⟨k, A1, hs, us, hk, rfl, rfl, HA1, NN, HO, U, HB, XB, PD⟩ := hrel
  obtain ⟨wo, rfl⟩ : ∃ wo : World, wo = wr := ⟨_, rfl⟩
  by_cases hlt : k < mn
  rotate_left
  ·obtain rfl : mn = k := by omega
   have DC : Hid (∀ W, Below wo.heap.size wo W → Calls Try.prog 18 #[.slice Ab b.length cb] W fun e w' => e = .returned (.int .i64 ((digL b : Nat) : Int)) ∧ Below W.heap.size W w') := Lib.hid (fun W h => calls_below (digest_calls Ab cb Bb b W hb1 hb2 (RBA.next (Bgo NN.out h) HBB.out)))
   generalize digL b = dg at *
   have KEEP : Hid (∀ X : World, Below wo.heap.size wo X → X.cell? ⟨gh, 4, none⟩ = some (.int .i64 (strN os))) := Lib.hid (fun X hX => blk_cell (blk_next hX HB.out) 4 _ rfl)
   have h0 := blk_cell HB.out 0 _ rfl
   have h1 := blk_cell HB.out 1 _ rfl
   have h2 := blk_cell HB.out 2 _ rfl
   have h3 := blk_cell HB.out 3 _ rfl
   have h4 := blk_cell HB.out 4 _ rfl
   have h5 := blk_cell HB.out 5 _ rfl
   have lh := blk_lt HB.out
   have kx : decide (((mn : Nat) : Int) < (mn : Int)) = false := decide_eq_false (by omega)
   go_wp2_with fail
   clear kx
   go_cut [17] (fun s17 wx => ∃ cq : Nat, s17 = .pointer (some ⟨cq, 0, none⟩) ∧ wo.heap.size ≤ cq ∧ Hid (Below wo.heap.size wo wx) ∧ Hid (wx.heap[cq]? = some (.cells #[.string nm, .int .i64 ((b.length : Nat) : Int), .int .i64 (strN os), .int .i64 ((mn : Nat) : Int), .int .i64 ((dg : Nat) : Int)] 50)))
   case first =>
    go_region_held3 (fun X => X.cell? ⟨gh, 4, none⟩ = some (.int .i64 (strN os))) ((refine KEEP.out _ ?_; (repeat (first | (with_reducible exact Below.refl _ _) | (with_reducible exact BQ.out) | (with_reducible refine Below.drew ?_) | (with_reducible refine Bal ?_ _) | (with_reducible refine Bset1 ?_ (by first | exact Nat.le_refl _ | exact BQ.out.size | (simp; omega)) _ _))))) (first | (go_at_call 18; (with_reducible refine (DC.out _ ?_).mono ?_); (repeat (first | (with_reducible exact Below.refl _ _) | (with_reducible exact BQ.out) | (with_reducible refine Below.drew ?_) | (with_reducible refine Bal ?_ _) | (with_reducible refine Bset1 ?_ (by first | exact Nat.le_refl _ | exact BQ.out.size | (simp; omega)) _ _))); rintro e wq ⟨rfl, bq⟩; have BQ : Hid (Below wo.heap.size wo wq) := Lib.hid (by refine Bgo ?_ bq; (repeat (first | (with_reducible exact Below.refl _ _) | (with_reducible exact BQ.out) | (with_reducible refine Below.drew ?_) | (with_reducible refine Bal ?_ _) | (with_reducible refine Bset1 ?_ (by first | exact Nat.le_refl _ | exact BQ.out.size | (simp; omega)) _ _)))); (first | (have RA : Hid (wq.heap[wo.heap.size]? = some (.cells #[.string ⟨#[]⟩, .int .i64 0, .int .i64 0, .int .i64 0, .int .i64 0] 50)) := Lib.hid (by first | (with_reducible exact blk_next bq (blk_new wo _)) | (with_reducible exact blk_next (undrewB bq) (blk_new wo _)) | (with_reducible exact blk_next bq (blk_new wo.drew _)) | (with_reducible exact blk_next (undrewB bq) (blk_new wo.drew _))); have ac0 := blk_cell RA.out 0 _ rfl; have af0 := blk_frozen RA.out 0; have ac1 := blk_cell RA.out 1 _ rfl; have af1 := blk_frozen RA.out 1; have ac2 := blk_cell RA.out 2 _ rfl; have af2 := blk_frozen RA.out 2; have ac3 := blk_cell RA.out 3 _ rfl; have af3 := blk_frozen RA.out 3; have ac4 := blk_cell RA.out 4 _ rfl; have af4 := blk_frozen RA.out 4; have al := blk_lt RA.out) | skip); clear bq))
    all_goals go_wp2_with fail
    all_goals go_meet
    all_goals (refine ⟨_, rfl, ?_, Lib.hid ?_, Lib.hid ?_⟩; (first | exact Nat.le_refl _ | exact BQ.out.size | (simp; done)); (repeat (first | (with_reducible exact Below.refl _ _) | (with_reducible exact BQ.out) | (with_reducible refine Below.drew ?_) | (with_reducible refine Bal ?_ _) | (with_reducible refine Bset1 ?_ (by first | exact Nat.le_refl _ | exact BQ.out.size | (simp; omega)) _ _))); (first | (with_reducible exact blk_new _ _) | (with_reducible exact blk_drew (blk_new _ _)) | exact blk_set (blk_set (blk_set (blk_set (blk_set RA.out 0 _) 1 _) 2 _) 3 _) 4 _ | exact blk_drew (blk_set (blk_set (blk_set (blk_set (blk_set RA.out 0 _) 1 _) 2 _) 3 _) 4 _)))
   case rest =>
    obtain ⟨cq, rfl, hcq, B7, OB7⟩ := hcut
    have LGH := blk_lt HB.out
    replace NN := Lib.hid (Bgo NN.out B7.out)
    replace HO := Lib.hid (HO.out.next B7.out)
    replace U := Lib.hid (U.out.next B7.out)
    replace HB := Lib.hid (blk_next B7.out HB.out)
    replace XB := Lib.hid (blk_next B7.out XB.out)
    clear B7 KEEP DC PD
    have eo := EO.out
    subst eo
    clear EO
    obtain ⟨z0, hi0, hz0, hz1, hz2⟩ := info_parts infoOb
    have HK := Lib.hid (And.intro hi0 (And.intro hz0 (And.intro hz1 hz2)))
    clear hi0 hz0 hz1 hz2
    have LWC := NN.out.size
    have h0 := blk_cell HB.out 0 _ rfl
    have fh0 := blk_frozen HB.out 0
    have h1 := blk_cell HB.out 1 _ rfl
    have fh1 := blk_frozen HB.out 1
    have h2 := blk_cell HB.out 2 _ rfl
    have fh2 := blk_frozen HB.out 2
    have h3 := blk_cell HB.out 3 _ rfl
    have fh3 := blk_frozen HB.out 3
    have h4 := blk_cell HB.out 4 _ rfl
    have fh4 := blk_frozen HB.out 4
    have h5 := blk_cell HB.out 5 _ rfl
    have fh5 := blk_frozen HB.out 5
    have lh := blk_lt HB.out
    have o0 := blk_cell OB7.out 0 _ rfl
    have o1 := blk_cell OB7.out 1 _ rfl
    have o2 := blk_cell OB7.out 2 _ rfl
    have o3 := blk_cell OB7.out 3 _ rfl
    have o4 := blk_cell OB7.out 4 _ rfl
    have lo := blk_lt OB7.out
    have UA : Hid ((wc.alloc (.cells #[.string nm, .int .i64 ((b.length : Nat) : Int), .int .i64 (strN os), .int .i64 ((mn : Nat) : Int), .int .i64 ((dg : Nat) : Int)] 50)).ownsRow w.heap.size 50 5 (.slice Au os.length cu) os.length (flatO os)) := Lib.hid (World.ownsRow.alloc U.out _)
    have KB : Hid (∀ w2 : World, (wc.alloc (.cells #[.string nm, .int .i64 ((b.length : Nat) : Int), .int .i64 (strN os), .int .i64 ((mn : Nat) : Int), .int .i64 ((dg : Nat) : Int)] 50)).grownBy w2 (Value.slice Au os.length cu).ownBlock → w2.heap[gh]? = some (.cells #[.int .i64 d, .int .i64 p, .slice (some ⟨g, 0, none⟩) ds.length cv, .slice Au os.length cu, .int .i64 (strN os), .int .i64 (faN ds)] 79) ∧ w2.heap[w.heap.size + 1]? = some (.cells #[.int .i64 0, .int .i64 0, .slice none 0 0, .slice none 0 0] 25)) := Lib.hid (fun w2 h => ⟨gblk_ty h UA.out (blk_alloc HB.out _) ne_ob_she, gblk_ty h UA.out (blk_alloc XB.out _) ne_ob_sto⟩)
    have ngx : gh ≠ w.heap.size + 1 := by omega
    go_wp2_with (at_builtin; refine wpList_append_rd _ rfl _ _ 23 rfl w.heap.size 50 z0 zO 5 48 Try.underlying23 HK.out.1 HK.out.2.1 HK.out.2.2.1 HK.out.2.2.2 rfl (by decide) _ os.length (flatO os) rfl UA.out (some ⟨wc.heap.size, 0, none⟩) 1 1 (obL ⟨nm, ((b.length : Nat) : Int), strN os, ((mn : Nat) : Int), ((dg : Nat) : Int)⟩) rfl (rd_ob (blk_new _ _)) (obj_one _) (by simp only [maxLen]; omega) (by omega) (by first | exact LWC | (simp; omega)) ?_; intro v2 w2 hown2 hg2 hat2; obtain ⟨A2', c2, rfl, g1', g2'⟩ := own_form2 hown2; have G2 := Lib.hid hg2; have O2 := Lib.hid hown2; have HB2 := Lib.hid (KB.out _ G2.out).1; have XB2 := Lib.hid (KB.out _ G2.out).2; have i0' := blk_cell HB2.out 0 _ rfl; have i1' := blk_cell HB2.out 1 _ rfl; have i2' := blk_cell HB2.out 2 _ rfl; have i3' := blk_cell HB2.out 3 _ rfl; have if3 := blk_frozen HB2.out 3; have il := blk_lt HB2.out; have x0' := blk_cell XB2.out 0 _ rfl; have x1' := blk_cell XB2.out 1 _ rfl; have x2' := blk_cell XB2.out 2 _ rfl; have x3' := blk_cell XB2.out 3 _ rfl; have xf0 := blk_frozen XB2.out 0; have xf1 := blk_frozen XB2.out 1; have xf2 := blk_frozen XB2.out 2; have xf3 := blk_frozen XB2.out 3; have xl := blk_lt XB2.out; clear hown2 hg2 hat2)
    have HO2 := (HO.out.next (Bal (Below.refl _ _) (.cells #[.string nm, .int .i64 ((b.length : Nat) : Int), .int .i64 (strN os), .int .i64 ((mn : Nat) : Int), .int .i64 ((dg : Nat) : Int)] 50))).kept UA.out ne_ob_u8 ne_ob_sl ne_ob_dk G2.out
    have HO3 := HO2.set_ (o := 3) HB2.out ne_she_u8 ne_she_sl ne_she_dk (.slice A2' (os.length + 1) c2)
    have O3 : OO w.heap.size w2 (.slice A2' (os.length + 1) c2) (os ++ [⟨nm, ((b.length : Nat) : Int), strN os, ((mn : Nat) : Int), ((dg : Nat) : Int)⟩]) := by unfold OO; rw [flatO_push, List.length_append]; exact O2.out
    have O4 := O3.set_ (o := 3) HB2.out ne_she_ob (.slice A2' (os.length + 1) c2)
    have XB3 := blk_set_other XB2.out ngx 3 (.slice A2' (os.length + 1) c2)
    have N3 := Bset1 (gbel G2.out (Bal NN.out _) (fun g hg => (UA.out.lt g hg).1)) (show w.heap.size ≤ gh by omega) 3 (.slice A2' (os.length + 1) c2)
    have Z := blk_set4 XB3 (.int .i64 d) (.int .i64 p) (.slice (some ⟨g, 0, none⟩) ds.length cv) (.slice A2' (os.length + 1) c2)
    have e0 := blk_cell Z 0 _ rfl
    have e1 := blk_cell Z 1 _ rfl
    have e2 := blk_cell Z 2 _ rfl
    have e3 := blk_cell Z 3 _ rfl
    exact bodyPost_ret (v := .tuple #[Tv d p (.slice (some ⟨g, 0, none⟩) ds.length cv) (.slice A2' (os.length + 1) c2), .int .i64 0]) (by simp [results, Try.results14, go_sem, e0, e1, e2, e3]) rfl ⟨_, _, rfl, OT.set4_ ⟨_, _, HO3⟩ XB3 _ _ _ _, OO.set4_ O4 XB3 _ _ _ _, Bset4 N3 (by omega) _ _ _ _⟩
  have k1 : (0 : Int) ≤ (k : Int) := by omega
  have k2 : (k : Int) < (mn : Int) := by omega
  have HLT := Lib.hid hlt
  have EI := Lib.hid (fun i (h : i < dn) => row_fit (d := dn) hlt h)
  have h0 := blk_cell HB.out 0 _ rfl
  have h1 := blk_cell HB.out 1 _ rfl
  have h2 := blk_cell HB.out 2 _ rfl
  have h3 := blk_cell HB.out 3 _ rfl
  have h4 := blk_cell HB.out 4 _ rfl
  have h5 := blk_cell HB.out 5 _ rfl
  have lh := blk_lt HB.out
  go_upto_region 18 with fail
  clear h0 h1 h2 h3 h4 h5 lh
  have TD : Hid ((wo.alloc (.cells (madeCells #[.slice none 0 0] dn) 26)).ownsRow wo.heap.size 26 1 (.slice (some ⟨wo.heap.size, 0, none⟩) dn dn) dn (hdl gp k dn tot 0)) := Lib.hid (by rw [hdl_zero]; exact nil_top wo dn (by omega) (Nat.le_refl _) rfl)
  have N5 : Hid (Below wo.heap.size wo (wo.alloc (.cells (madeCells #[.slice none 0 0] dn) 26))) := Lib.hid (Bal (Below.refl _ _) _)
  have LO := blk_lt PD.out
  have LH := blk_lt HB.out
  have LX := blk_lt XB.out
  have LWO := NN.out.size
  generalize (wo.alloc (.cells (madeCells #[.slice none 0 0] dn) 26)) = W5 at *
  obtain ⟨gd, hgd⟩ : ∃ gd, gd = wo.heap.size := ⟨_, rfl⟩
  rw [show (.slice (some ⟨wo.heap.size, 0, none⟩) dn dn : Value) = .slice (some ⟨gd, 0, none⟩) dn dn by rw [hgd]] at TD
  rw [← hgd]
  have HGD := Lib.hid hgd
  clear hgd
  go_wp2_with fail
  go_loopw [11, 81] (fun v i wr => ∃ (j : Nat) (A2 : Option Addr), j ≤ dn ∧ i = .int .i64 j ∧ v = .slice A2 (tot - (k * dn + j) * 8) (tot - (k * dn + j) * 8) ∧ Hid ((k * dn + j) * 8 < tot → A2 = some ⟨gp, (k * dn + j) * 8, none⟩) ∧ Hid (Below wo.heap.size wo wr) ∧ Hid (wr.ownsRow wo.heap.size 26 1 (.slice (some ⟨gd, 0, none⟩) dn dn) dn (hdl gp k dn tot j))) (fun _ i _ => dn - (intOf i).toNat)
  case atStart => exact ⟨0, A1, by omega, rfl, by simp, Lib.hid (by simpa using HA1.out), N5, TD⟩
  case round =>
   clear N5 TD
   obtain ⟨j, A2, hj, rfl, rfl, HA2, NI, TJ⟩ := hrel
   by_cases hlj : j < dn
   ·have ef := EI.out j hlj
    rw [← HTOT.out] at ef
    have j1 : (0 : Int) ≤ (j : Int) := by omega
    have j2 : (j : Int) < (dn : Int) := by omega
    obtain rfl := HA2.out (by omega)
    clear HA2
    obtain ⟨at', hat'⟩ : ∃ a, a = (k * dn + j) * 8 := ⟨_, rfl⟩
    rw [← hat'] at ef ⊢
    have HAT := Lib.hid hat'
    clear hat'
    obtain ⟨rm, hrm⟩ : ∃ r, r = tot - at' := ⟨_, rfl⟩
    rw [← hrm]
    have r8 : 8 ≤ rm := by omega
    have r9 : rm ≤ 2500 := by omega
    have HRM := Lib.hid hrm
    clear hrm
    have i8 : (8 : Int) ≤ (rm : Int) := by omega
    have fj : wr.frozen? ⟨gd, j, none⟩ = false := TJ.out.frozenAt _
    have cj : wr.cell? ⟨gd, j, none⟩ = some (.slice none 0 0) := (TJ.out.cellAt j (by omega)).trans (hdl_at hlj)
    have lgd := (TJ.out.lt gd rfl).2
    go_wp2_with fail
    go_region
    all_goals go_wp2_with fail
    all_goals
     have ST := (TJ.out.stored j (.slice (some ⟨gp, at', none⟩) 8 rm)).1
     have lgw := (TJ.out.lt gd rfl).1
     have NS := Bset1 NI.out lgw j (.slice (some ⟨gp, at', none⟩) 8 rm)
     have SQ := hdl_step (gp := gp) (k := k) (tot := tot) hlj
     rw [← HAT.out, ← HRM.out] at SQ
     refine ⟨⟨j + 1, (if rm = 8 then some ⟨gp, at', none⟩ else some ⟨gp, at' + 8, none⟩), by omega, by go_num, ?_, Lib.hid ?_, Lib.hid (by first | exact NS | exact NS.drew), Lib.hid (by rw [← SQ]; exact ST)⟩, by simp [intOf]; omega⟩
     all_goals have e1 : (k * dn + (j + 1)) * 8 = at' + 8 := by rw [HAT.out]; omega
     all_goals have e2 : tot - (at' + 8) = rm - 8 := by rw [HRM.out]; omega
     ·rw [e1, e2]
     ·intro h; rw [if_neg (by rw [HRM.out]; omega), e1]
   obtain ⟨we, rfl⟩ : ∃ we : World, we = wr := ⟨_, rfl⟩
   obtain rfl : dn = j := by omega
   have RM5 := Lib.hid (rma_hdl (by rw [← HTOT.out]; exact TJ.out) (blk_next NI.out PD.out) QL.out QB.out hlt (by rw [← HTOT.out]; omega))
   replace NN := Lib.hid (Bgo NN.out NI.out)
   replace HO := Lib.hid (HO.out.next NI.out)
   replace U := Lib.hid (U.out.next NI.out)
   replace HB := Lib.hid (blk_next NI.out HB.out)
   replace XB := Lib.hid (blk_next NI.out XB.out)
   replace PD := Lib.hid (blk_next NI.out PD.out)
   have hgW : g < we.heap.size := (HO.out.top.lt g rfl).2
   have EC := Lib.hid (fun (W : World) (h : RMA 0 W (some ⟨gd, 0, none⟩) (rowsL dn q k)) => (show Calls Try.prog 46 #[.slice (some ⟨gd, 0, none⟩) dn dn, .int .i64 p] W (SEPost W (d, p, enc (rowsL dn q k) pn) 0) from by
    have := encode_calls (some ⟨gd, 0, none⟩) dn 0 (rowsL dn q k) p W (by rw [rowsL_len]; exact Nat.le_refl _) (by omega) h
    obtain ⟨e1, e2⟩ := put_enc (pn := pn) dn1 dn8 QL.out hlt pn4
    rw [rowsL_len, PN.out, e1, e2, ← PN.out, ← DN.out] at this
    exact this))
   have ELEN : Hid ((enc (rowsL dn q k) pn).length = ds.length) := Lib.hid (by rw [enc_len, rowsL_len]; have := OK.out.len; have := DN.out; have := PN.out; omega)
   have PM := Lib.hid (fun n x l (a : ds[n]? = some x) (c : x.failed = false) (e : (enc (rowsL dn q k) pn)[n]? = some l) => putM_more (p := pn) a c e)
   generalize enc (rowsL dn q k) pn = rows at *
   clear NI TJ EI LO LH LX LWO mk1 mk2 g1 g2 g3 ND NC hbt hlt t_f1 m1 m2 hd1 hd8 hp0 hp4 tot9 k1 k2 hb1 hb2 hnm
   have h0 := blk_cell HB.out 0 _ rfl
   have h1 := blk_cell HB.out 1 _ rfl
   have h2 := blk_cell HB.out 2 _ rfl
   have h3 := blk_cell HB.out 3 _ rfl
   have h4 := blk_cell HB.out 4 _ rfl
   have h5 := blk_cell HB.out 5 _ rfl
   have lh := blk_lt HB.out
   go_wp2_with fail
   clear h0 h1 h2 h3 h4 h5 lh
   refine (EC.out _ RM5.out).mono ?_
   rintro e w6 ⟨v6, rfl, hm6, hb6⟩
   obtain ⟨us6, hm6⟩ := hm6
   obtain ⟨A6, c6, rfl, h61, h62, _⟩ := own_form hm6.top
   simp only at hm6 h61
   clear EC RM5
   go_upto_region 24 with fail
   have B6 : Below we.heap.size we (w6.alloc (.cells #[.int .i64 d, .int .i64 p, .slice A6 rows.length c6] 54)) := Bal hb6 _
   have PB : Hid ((w6.alloc (.cells #[.int .i64 d, .int .i64 p, .slice A6 rows.length c6] 54)).heap[w6.heap.size]? = some (.cells #[.int .i64 d, .int .i64 p, .slice A6 rows.length c6] 54)) := Lib.hid (blk_new _ _)
   have TM := Lib.hid (hm6.next (Bal (Below.refl _ _) (.cells #[.int .i64 d, .int .i64 p, .slice A6 rows.length c6] 54)))
   have L6 : we.heap.size ≤ w6.heap.size := hb6.size
   have L7 : w6.heap.size < (w6.alloc (.cells #[.int .i64 d, .int .i64 p, .slice A6 rows.length c6] 54)).heap.size := blk_lt PB.out
   clear hm6 hb6
   generalize (w6.alloc (.cells #[.int .i64 d, .int .i64 p, .slice A6 rows.length c6] 54)) = W6 at *
   generalize w6.heap.size = gq at *
   have P0 := Lib.hid (PT.first (nb2 := W6.heap.size) (ru := us6) HO.out hgW B6)
   rw [← putM_zero] at P0
   have HT6 : Hid (∀ (j : Nat) (z : Value) (t : Nat), us6[j]? = some z → z.ownBlock = some t → t < W6.heap.size) := Lib.hid (fun j z t hz e => by obtain ⟨l, hl⟩ := get_some (show j < rows.length by rw [← TM.out.len]; exact get_lt hz); exact ((TM.out.row j z l hz hl).lt t e).2)
   replace NN := Lib.hid (Bgo NN.out B6)
   replace U := Lib.hid (U.out.next B6)
   replace HB := Lib.hid (blk_next B6 HB.out)
   replace XB := Lib.hid (blk_next B6 XB.out)
   replace PD := Lib.hid (blk_next B6 PD.out)
   have LNB := NN.out.size
   skip
   have LBE : w.heap.size ≤ we.heap.size := Nat.le_trans hgB (Nat.le_of_lt hgW)
   clear HO B6
   have h0 := blk_cell HB.out 0 _ rfl
   have h1 := blk_cell HB.out 1 _ rfl
   have h2 := blk_cell HB.out 2 _ rfl
   have h3 := blk_cell HB.out 3 _ rfl
   have h4 := blk_cell HB.out 4 _ rfl
   have h5 := blk_cell HB.out 5 _ rfl
   have lh := blk_lt HB.out
   go_wp2_with fail
   clear h0 h1 h2 h3 h4 h5 lh
   go_loopw [108] (fun i wr => ∃ (j : Nat) (hs : List Value) (us : List (List Value)), j ≤ ds.length ∧ i = .int .i64 j ∧ Hid (Below w.heap.size w wr) ∧ Hid (PT w.heap.size we.heap.size W6.heap.size wr g ds.length cv us6 hs us (putM dn pn q k j ds) j) ∧ Hid (OO w.heap.size wr (.slice Au os.length cu) os) ∧ Hid (wr.heap[gh]? = some (.cells #[.int .i64 d, .int .i64 p, .slice (some ⟨g, 0, none⟩) ds.length cv, .slice Au os.length cu, .int .i64 (strN os), .int .i64 (faN ds)] 79)) ∧ Hid (wr.heap[w.heap.size + 1]? = some (.cells #[.int .i64 0, .int .i64 0, .slice none 0 0, .slice none 0 0] 25)) ∧ Hid (wr.heap[gp]? = some (.cells (bv q).toArray 5)) ∧ Hid (∀ b, we.heap.size ≤ b → b < W6.heap.size → wr.heap[b]? = W6.heap[b]?) ∧ Hid (W6.heap.size ≤ wr.heap.size)) (fun i _ => ds.length - (intOf i).toNat)
   case atStart => exact ⟨0, hs, us, by omega, rfl, NN, P0, U, HB, XB, PD, Lib.hid (fun _ _ _ => rfl), Lib.hid (Nat.le_refl _)⟩
   case round =>
    clear NN P0 U HB XB PD
    obtain ⟨j, hs, us, hj, rfl, NN, PJ, U, HB, XB, PD, KJ, SZ⟩ := hrel
    by_cases hlj : j < ds.length
    rotate_left
    ·obtain rfl : j = ds.length := by omega
     have j9 : decide (((ds.length : Nat) : Int) < (ds.length : Int)) = false := decide_eq_false (by omega)
     go_wp2_with fail
     have ek : (k + 1) * dn * 8 = (k * dn + dn) * 8 := by rw [Nat.add_mul, Nat.one_mul]
     refine ⟨⟨k + 1, A2, hs, us, HLT.out, by go_num, by rw [ek], Lib.hid (by rw [ek]; exact HA2.out), NN, Lib.hid (by rw [← putM_all]; exact PJ.out.os), U, HB, XB, PD⟩, by have := HLT.out; simp [intOf]; omega⟩
    obtain ⟨x, hx⟩ := get_some hlj
    have hM := putM_get (d := dn) (p := pn) (q := q) (k := k) (n := j) hx
    rw [if_neg (Nat.lt_irrefl _)] at hM
    obtain ⟨y, hy⟩ := get_some (show j < hs.length by rw [PJ.out.os.lenH, putM_len]; exact hlj)
    obtain ⟨u, hu⟩ := get_some (show j < us.length by rw [PJ.out.os.lenU, putM_len]; exact hlj)
    have TOPJ := Lib.hid PJ.out.os.top
    rw [putM_len] at TOPJ
    have FD := Lib.hid (flatD_get hM hy)
    have HDK : Hid (∃ cs, wr.heap[g]? = some (.cells cs 46)) := Lib.hid (own_blk2 TOPJ.out)
    have c0 := (TOPJ.out.cellAt (j * 2) (by omega)).trans FD.out.1
    rw [putDk_failed] at c0
    have hgw : g < wr.heap.size := (TOPJ.out.lt g rfl).2
    have i0 : (0 : Int) ≤ (j : Int) := by omega
    have i1 : (j : Int) < (ds.length : Int) := by omega
    have h0 := blk_cell HB.out 0 _ rfl
    have h1 := blk_cell HB.out 1 _ rfl
    have h2 := blk_cell HB.out 2 _ rfl
    have h3 := blk_cell HB.out 3 _ rfl
    have h4 := blk_cell HB.out 4 _ rfl
    have h5 := blk_cell HB.out 5 _ rfl
    have lh := blk_lt HB.out
    by_cases hf : x.failed = true
    ·rw [hf] at c0
     have PS := Lib.hid PJ.out.skip
     rw [← putM_skip hx hf] at PS
     clear hx hM hy hu FD
     go_wp2_with fail
     refine ⟨⟨j + 1, hs, us, by omega, by go_num, NN, PS, U, HB, XB, PD, KJ, SZ⟩, by simp [intOf]; omega⟩
    have hf' : x.failed = false := by simpa using hf
    rw [hf'] at c0
    have RW := Lib.hid (PJ.out.os.row j _ y u hM hy hu)
    have xb := putDk_len (d := dn) (p := pn) (q := q) (k := k) (i := j) hf'
    have xb2 := ((OK.out.dkl (List.mem_of_getElem? hx)).2 hf').1
    have xb3 := OK.out.str
    obtain ⟨bn, hbn⟩ : ∃ bn, bn = (putDk dn pn q k j x).blocks.length := ⟨_, rfl⟩
    have bn9 : bn ≤ 700 := by omega
    have HBN := Lib.hid hbn
    obtain ⟨Ay, cy, hye, hy1, hy2, -⟩ := own_form RW.out.top
    rw [← HBN.out] at hye hy1
    subst hye
    have TX : Hid (wr.ownsRow w.heap.size 26 1 (.slice Ay bn cy) bn u) := Lib.hid (by have := RW.out.top; rw [← HBN.out] at this; exact this)
    have c1 := (TOPJ.out.cellAt (j * 2 + 1) (by omega)).trans FD.out.2
    have PBj := Lib.hid ((KJ.out gq L6 L7).trans PB.out)
    have p2 := blk_cell PBj.out 2 _ rfl
    have lp := blk_lt PBj.out
    have TMj : Hid (OMx we.heap.size wr (.slice A6 rows.length c6) us6 rows) := Lib.hid (TM.out.same (fun g cs t hg hh _ => KJ.out g hg (blk_lt hh)))
    obtain ⟨l, hl⟩ := get_some (show j < rows.length by rw [ELEN.out]; exact hlj)
    obtain ⟨ru, hru⟩ := get_some (show j < us6.length by rw [TM.out.len, ELEN.out]; exact hlj)
    obtain ⟨Ar, cr, hre, hr1, hr9, -⟩ := own_form (TMj.out.row j ru l hru hl)
    subst hre
    obtain ⟨b6, k61, k62, k63, k64⟩ := own_cell2 TMj.out.top hru
    subst k61
    have j4 : (j : Int) < (rows.length : Int) := by rw [ELEN.out]; exact i1
    have l8 : bn + 1 ≤ 701 := by omega
    obtain ⟨n0, hi0, hz0, hz1, hz2⟩ := info_parts sl_info
    have HI := Lib.hid (And.intro hi0 (And.intro hz0 (And.intro hz1 hz2)))
    clear hi0 hz0 hz1 hz2
    have HX := Lib.hid (And.intro hx (And.intro hf' (And.intro hl hru)))
    have HM := Lib.hid (And.intro hM (And.intro hy hu))
    clear hx hM hy hu hl hru hbn xb xb2 xb3 hf
    have LWR := NN.out.size
    have DK : Hid (∀ w2 : World, (wr.alloc (.cells #[.slice Ar l.length cr] 26)).grownBy w2 (Value.slice Ay bn cy).ownBlock → w2.frozen? ⟨g, j * 2 + 1, none⟩ = false ∧ w2.cell? ⟨g, j * 2 + 1, none⟩ = some (.slice Ay bn cy) ∧ g < w2.heap.size) := Lib.hid (fun w2 h => by
     have D2 := (TOPJ.out.alloc (.cells #[.slice Ar l.length cr] 26)).kept h (own_own (TX.out.alloc (.cells #[.slice Ar l.length cr] 26)) (TOPJ.out.alloc (.cells #[.slice Ar l.length cr] 26)) ne_sl_dk)
     exact ⟨D2.frozenAt _, (D2.cellAt (j * 2 + 1) (by omega)).trans FD.out.2, (D2.lt g rfl).2⟩)
    go_wp2_with fail
    clear h0 h1 h2 h3 h4 h5 lh
    have HL0 : Hid (∀ k, SC [(2, ⟨gh, 2, none⟩, .slice (some ⟨g, 0, none⟩) ds.length cv), (6, ⟨gh, 2, none⟩, .slice (some ⟨g, 0, none⟩) ds.length cv), (10, ⟨g, j * 2 + 1, none⟩, .slice Ay bn cy), (12, ⟨gq, 2, none⟩, .slice (some ⟨b6, 0, none⟩) rows.length c6), (15, ⟨b6, j, none⟩, .slice Ar l.length cr)] k wr) := Lib.hid (fun k p hp e => by
     simp only [List.mem_cons, List.not_mem_nil, or_false] at hp
     rcases hp with rfl | rfl | rfl | rfl | rfl
     ·exact ⟨blk_lt HB.out, blk_cell HB.out 2 _ rfl⟩
     ·exact ⟨blk_lt HB.out, blk_cell HB.out 2 _ rfl⟩
     ·exact ⟨hgw, c1⟩
     ·exact ⟨blk_lt PBj.out, blk_cell PBj.out 2 _ rfl⟩
     ·exact ⟨k63, k62⟩)
    have hb6 : (Value.slice Ay bn cy).ownBlock ≠ some b6 := fun e => by rcases PJ.out.top j _ b6 HM.out.2.1 e with h | h; (· have := k64; omega); (· have := (TM.out.top.lt b6 rfl).2; omega)
    have HNE : Hid (∀ p ∈ ([(2, ⟨gh, 2, none⟩, .slice (some ⟨g, 0, none⟩) ds.length cv), (6, ⟨gh, 2, none⟩, .slice (some ⟨g, 0, none⟩) ds.length cv), (10, ⟨g, j * 2 + 1, none⟩, .slice Ay bn cy), (12, ⟨gq, 2, none⟩, .slice (some ⟨b6, 0, none⟩) rows.length c6), (15, ⟨b6, j, none⟩, .slice Ar l.length cr)] : List (Nat × Addr × Value)), some p.2.1.block ≠ (Value.slice Ay bn cy).ownBlock) := Lib.hid (fun p hp e => by
     simp only [List.mem_cons, List.not_mem_nil, or_false] at hp
     rcases hp with rfl | rfl | rfl | rfl | rfl
     ·exact own_ne TX.out HB.out ne_sl_she e.symm
     ·exact own_ne TX.out HB.out ne_sl_she e.symm
     ·exact own_ne TX.out HDK.out.choose_spec ne_sl_dk e.symm
     ·exact own_ne TX.out PBj.out ne_sl_st e.symm
     ·exact hb6 e.symm)
    clear hb6
    refine region_I (S := SC [(2, ⟨gh, 2, none⟩, .slice (some ⟨g, 0, none⟩) ds.length cv), (6, ⟨gh, 2, none⟩, .slice (some ⟨g, 0, none⟩) ds.length cv), (10, ⟨g, j * 2 + 1, none⟩, .slice Ay bn cy), (12, ⟨gq, 2, none⟩, .slice (some ⟨b6, 0, none⟩) rows.length c6), (15, ⟨b6, j, none⟩, .slice Ar l.length cr)]) (by kernel_rfl) ?_
    have HAL : Hid (∀ k, SC [(2, ⟨gh, 2, none⟩, .slice (some ⟨g, 0, none⟩) ds.length cv), (6, ⟨gh, 2, none⟩, .slice (some ⟨g, 0, none⟩) ds.length cv), (10, ⟨g, j * 2 + 1, none⟩, .slice Ay bn cy), (12, ⟨gq, 2, none⟩, .slice (some ⟨b6, 0, none⟩) rows.length c6), (15, ⟨b6, j, none⟩, .slice Ar l.length cr)] k wr.drew) := Lib.hid (fun k => (HL0.out k).next (Below.refl _ _).drew)
    clear HL0 c1
    refine tJ 0 (.pointer (some ⟨gh, 0, none⟩)) (some 119) rfl (HAL.out 0) (Or.inl ⟨by rfl, ?_⟩) ?_
    ·intro X hX
     clear hX
     go_simp
    try simp only [Act.put, zA, zB, zC]
    refine tJ 1 (.pointer (some ⟨gh, 2, none⟩)) (some 120) rfl (HAL.out 1) (Or.inl ⟨by rfl, ?_⟩) ?_
    ·intro X hX
     clear hX
     go_simp
    try simp only [Act.put, zA, zB, zC]
    refine tJ 2 (.slice (some ⟨g, 0, none⟩) ds.length cv) (some 121) rfl (HAL.out 2) (Or.inl ⟨by rfl, ?_⟩) ?_
    ·intro X hX
     obtain ⟨hz, hc⟩ := hX (2, ⟨gh, 2, none⟩, .slice (some ⟨g, 0, none⟩) ds.length cv) (List.Mem.head _) rfl
     simp only at hz hc
     clear hX
     go_simp
    try simp only [Act.put, zA, zB, zC]
    refine tJ 3 (.int .i64 (j : Int)) (some 122) rfl (HAL.out 3) (Or.inl ⟨by rfl, ?_⟩) ?_
    ·intro X hX
     clear hX
     go_simp
    try simp only [Act.put, zA, zB, zC]
    refine tJ 4 (.pointer (some ⟨gh, 0, none⟩)) (some 123) rfl (HAL.out 4) (Or.inl ⟨by rfl, ?_⟩) ?_
    ·intro X hX
     clear hX
     go_simp
    try simp only [Act.put, zA, zB, zC]
    refine tJ 5 (.pointer (some ⟨gh, 2, none⟩)) (some 124) rfl (HAL.out 5) (Or.inl ⟨by rfl, ?_⟩) ?_
    ·intro X hX
     clear hX
     go_simp
    try simp only [Act.put, zA, zB, zC]
    refine tJ 6 (.slice (some ⟨g, 0, none⟩) ds.length cv) (some 125) rfl (HAL.out 6) (Or.inl ⟨by rfl, ?_⟩) ?_
    ·intro X hX
     obtain ⟨hz, hc⟩ := hX (6, ⟨gh, 2, none⟩, .slice (some ⟨g, 0, none⟩) ds.length cv) (List.Mem.tail _ (List.Mem.head _)) rfl
     simp only at hz hc
     clear hX
     go_simp
    try simp only [Act.put, zA, zB, zC]
    refine tJ 7 (.int .i64 (j : Int)) (some 126) rfl (HAL.out 7) (Or.inl ⟨by rfl, ?_⟩) ?_
    ·intro X hX
     clear hX
     go_simp
    try simp only [Act.put, zA, zB, zC]
    refine tJ 8 (.pointer (some ⟨g, j * 2, none⟩)) (some 127) rfl (HAL.out 8) (Or.inl ⟨by rfl, ?_⟩) ?_
    ·intro X hX
     clear hX
     go_simp
    try simp only [Act.put, zA, zB, zC]
    refine tJ 9 (.pointer (some ⟨g, j * 2 + 1, none⟩)) (some 128) rfl (HAL.out 9) (Or.inl ⟨by rfl, ?_⟩) ?_
    ·intro X hX
     clear hX
     go_simp
    try simp only [Act.put, zA, zB, zC]
    refine tJ 10 (.slice Ay bn cy) (some 129) rfl (HAL.out 10) (Or.inl ⟨by rfl, ?_⟩) ?_
    ·intro X hX
     obtain ⟨hz, hc⟩ := hX (10, ⟨g, j * 2 + 1, none⟩, .slice Ay bn cy) (List.Mem.tail _ (List.Mem.tail _ (List.Mem.head _))) rfl
     simp only at hz hc
     clear hX
     go_simp
    try simp only [Act.put, zA, zB, zC]
    refine tJ 11 (.pointer (some ⟨gq, 2, none⟩)) (some 130) rfl (HAL.out 11) (Or.inl ⟨by rfl, ?_⟩) ?_
    ·intro X hX
     clear hX
     go_simp
    try simp only [Act.put, zA, zB, zC]
    refine tJ 12 (.slice (some ⟨b6, 0, none⟩) rows.length c6) (some 131) rfl (HAL.out 12) (Or.inl ⟨by rfl, ?_⟩) ?_
    ·intro X hX
     obtain ⟨hz, hc⟩ := hX (12, ⟨gq, 2, none⟩, .slice (some ⟨b6, 0, none⟩) rows.length c6) (List.Mem.tail _ (List.Mem.tail _ (List.Mem.tail _ (List.Mem.head _)))) rfl
     simp only at hz hc
     clear hX
     go_simp
    try simp only [Act.put, zA, zB, zC]
    refine tJ 13 (.int .i64 (j : Int)) (some 132) rfl (HAL.out 13) (Or.inl ⟨by rfl, ?_⟩) ?_
    ·intro X hX
     clear hX
     go_simp
    try simp only [Act.put, zA, zB, zC]
    refine tJ 14 (.pointer (some ⟨b6, j, none⟩)) (some 133) rfl (HAL.out 14) (Or.inl ⟨by rfl, ?_⟩) ?_
    ·intro X hX
     clear hX
     go_simp
    try simp only [Act.put, zA, zB, zC]
    refine tJ 15 (.slice Ar l.length cr) (some 134) rfl (HAL.out 15) (Or.inl ⟨by rfl, ?_⟩) ?_
    ·intro X hX
     obtain ⟨hz, hc⟩ := hX (15, ⟨b6, j, none⟩, .slice Ar l.length cr) (List.Mem.tail _ (List.Mem.tail _ (List.Mem.tail _ (List.Mem.tail _ (List.Mem.head _))))) rfl
     simp only at hz hc
     clear hX
     go_simp
    try simp only [Act.put, zA, zB, zC]
    refine only_I 16 (by kernel_rfl) rfl (fun K' hK' => ?_)
    go_simp
    refine hK'.out _ _ (fun k _ hS => hS.next (Bal (Below.refl _ _) _)) ?_
    clear hK' K'
    try simp only [Act.put, zA, zB, zC]
    refine only_I 17 (by kernel_rfl) rfl (fun K' hK' => ?_)
    refine step_append_rd _ (by rfl) _ _ 44 (by rfl) w.heap.size 26 n0 (.slice none 0 0) 1 24 Try.underlying44 HI.out.1 HI.out.2.1 HI.out.2.2.1 HI.out.2.2.2 rfl (by decide) _ bn u (by rfl) ?_ (some ⟨wr.heap.size, 0, none⟩) 1 1 [.slice Ar l.length cr] (by rfl) ?_ (slice_one _ _ _) (by simp only [maxLen]; omega) (by omega) ?_ ?_
    ·first | exact TX.out.drew.alloc _ | exact TX.out.alloc _ | exact (TX.out.alloc _).drew
    ·exact rd_one (t := 26) (blk_new _ _)
    ·first | exact LWR | (simp; omega)
    intro v2 w2 hown2 hg2 hat2
    obtain ⟨A2', c2, rfl, g1', g2', _⟩ := own_form hown2
    have G2 : Hid ((wr.alloc (.cells #[.slice Ar l.length cr] 26)).grownBy w2 (Value.slice Ay bn cy).ownBlock) := Lib.hid (by first | exact hg2 | exact gundrew hg2 | exact ⟨hg2.os, hg2.tape, hg2.output, hg2.size, hg2.block⟩)
    have O2 : Hid (w2.ownsRow w.heap.size 26 1 (.slice A2' (bn + 1) c2) (bn + 1) (u ++ [.slice Ar l.length cr])) := Lib.hid hown2
    have AT2 : Hid ((Value.slice A2' (bn + 1) c2).ownBlock = (Value.slice Ay bn cy).ownBlock ∨ (Value.slice A2' (bn + 1) c2).ownBlock = some (wr.alloc (.cells #[.slice Ar l.length cr] 26)).heap.size) := Lib.hid hat2
    refine hK'.out _ _ (fun k _ hS => hS.grown hg2 HNE.out) ?_
    clear hK' K' hown2 hg2 hat2
    try simp only [Act.put, zA, zB, zC]
    refine tJ 18 (.pointer (some ⟨g, j * 2, none⟩)) (some 137) rfl (SC.none (by simp)) (Or.inl ⟨by rfl, ?_⟩) ?_
    ·intro X hX
     clear hX
     go_simp
    try simp only [Act.put, zA, zB, zC]
    refine tJ 19 (.pointer (some ⟨g, j * 2 + 1, none⟩)) (some 138) rfl (SC.none (by simp)) (Or.inl ⟨by rfl, ?_⟩) ?_
    ·intro X hX
     clear hX
     go_simp
    try simp only [Act.put, zA, zB, zC]
    obtain ⟨f2, y3, hz2⟩ := DK.out _ G2.out
    refine only_I 20 (by kernel_rfl) rfl (fun K' hK' => ?_)
    go_simp
    refine hK'.out _ _ (fun k hk hS p hp e => ?_) ?_
    ·simp only [List.mem_cons, List.not_mem_nil, or_false] at hp
     rcases hp with rfl | rfl | rfl | rfl | rfl
     ·subst e; exact bfl (by kernel_rfl) hk
     ·subst e; exact bfl (by kernel_rfl) hk
     ·subst e; exact bfl (by kernel_rfl) hk
     ·subst e; exact bfl (by kernel_rfl) hk
     ·subst e; exact bfl (by kernel_rfl) hk
    clear hK' K' f2 y3
    try simp only [Act.put, zA, zB, zC]
    clear HAL
    refine done_I (by kernel_rfl) ?_ _
    go_wp2_with fail
    have PA := PJ.out.alloc (.cells #[.slice Ar l.length cr] 26)
    have P2 := PT.more PA HM.out.1 HM.out.2.1 HM.out.2.2 (TMj.out.next (Bal (Below.refl _ _) _)) HT6.out HX.out.2.2.2 HX.out.2.2.1 (Nat.le_trans SZ.out (Bal (Below.refl wr.heap.size wr) _).size) LBE (by rw [← HBN.out]; exact O2.out) G2.out AT2.out
    rw [PM.out j x l HX.out.1 HX.out.2.1 HX.out.2.2.1] at P2
    have KK := PT.keep (x' := (.slice A2' (bn + 1) c2)) PA HM.out.2.1 (Nat.le_trans SZ.out (Bal (Below.refl wr.heap.size wr) _).size) G2.out
    have TA := TX.out.alloc (.cells #[.slice Ar l.length cr] 26)
    have N2 := Bset1 (gbel G2.out (Bal NN.out (.cells #[.slice Ar l.length cr] 26)) (fun t ht => (TX.out.lt t ht).1)) hgB (j * 2 + 1) (.slice A2' (bn + 1) c2)
    have HB2 := lay_other (i := j * 2 + 1) (x' := (.slice A2' (bn + 1) c2)) (blk_alloc HB.out _) PA.os TA G2.out ne_dk_she ne_sl_she
    have XB2 := lay_other (i := j * 2 + 1) (x' := (.slice A2' (bn + 1) c2)) (blk_alloc XB.out _) PA.os TA G2.out ne_dk_sto ne_sl_sto
    have PD2 := lay_other (i := j * 2 + 1) (x' := (.slice A2' (bn + 1) c2)) (blk_alloc PD.out _) PA.os TA G2.out ne_dk_u8 ne_sl_u8
    have U2 := lay_objs (i := j * 2 + 1) (x' := (.slice A2' (bn + 1) c2)) (U.out.next (Bal (Below.refl _ _) _)) PA.os TA G2.out
    refine ⟨⟨j + 1, _, _, by omega, by go_num, Lib.hid N2, Lib.hid P2, Lib.hid U2, Lib.hid HB2, Lib.hid XB2, Lib.hid PD2, Lib.hid (fun b h1 h2 => (KK b h1 h2).trans (((Bal (Below.refl wr.heap.size wr) _).block b (by have := SZ.out; omega)).trans (KJ.out b h1 h2))), Lib.hid (Nat.le_trans SZ.out (Nat.le_trans (Bal (Below.refl wr.heap.size wr) _).size (Nat.le_trans G2.out.size (Nat.le_of_eq (Go.Deep.nblk_setCell _ _ _).symm))))⟩, by simp [intOf]; omega⟩
end Go.Proofs.Ytapehckcmmompaa
