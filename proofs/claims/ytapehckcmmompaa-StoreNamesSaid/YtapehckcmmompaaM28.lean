/- Several texts in one. -/
import Derived.StillTailTactics
import Derived.Test.YtapehckcmmompaaM19
import Derived.Test.YtapehckcmmompaaM20
import Derived.Test.YtapehckcmmompaaM23
import Derived.Test.YtapehckcmmompaaM26
import Derived.Test.YtapehckcmmompaaM27
namespace Go.Proofs.Ytapehckcmmompaa
open Go.ChangeShapes Go.WideShapes Go.ChangeAt Go.RowKit
set_option linter.unusedVariables false
set_option maxRecDepth 100000
attribute [local go_sem ↓] Go.wp_at_zero Go.wp_at_succ
def MPost (w : World) (s : So) (k er : Int) (e : Ending) (w' : World) : Prop := ∃ v u, e = .returned (.tuple #[Tv s.1 s.2.1 v u, .int .i64 k, .int .i64 er]) ∧ OT w.heap.size w' v s.2.2.1 ∧ OO w.heap.size w' u s.2.2.2 ∧ Below w.heap.size w w'
theorem rw_other {B : Nat} {W : World} {g b n cap i : Nat} {x : Value} {cs : Array Value} {t : TypeId} {xs : List Value} (h : W.heap[b]? = some (.cells cs t)) (ht : W.ownsRow B 26 1 (.slice (some ⟨g, 0, none⟩) n cap) n xs) (hne : 26 ≠ t) : (W.setCell ⟨g, i, none⟩ x).heap[b]? = some (.cells cs t) := by
 have ne : g ≠ b := fun e => own_ne ht h hne (by rw [e]; rfl)
 exact blk_set_other h ne _ _
theorem OO.rw {B B' : Nat} {W : World} {g n cap i : Nat} {x v : Value} {xs : List Value} {os : List Ob} (h : OO B' W v os) (ht : W.ownsRow B 26 1 (.slice (some ⟨g, 0, none⟩) n cap) n xs) : OO B' (W.setCell ⟨g, i, none⟩ x) v os :=
 own_same h fun g' cs _ hh => (rw_other hh ht ne_sl_ob).trans hh.symm
theorem ri_one (W : World) (x : Int) : RI 0 (W.alloc (.cells #[.int .i64 x] 3)) (some ⟨W.heap.size, 0, none⟩) [x] := by
 intro j u hu
 cases j with
 | zero => exact ⟨W.heap.size, 0, rfl, Nat.zero_le _, blk_lt (blk_new _ _), by simp [ivI] at hu; subst hu; exact blk_cell (blk_new W _) 0 _ rfl⟩
 | succ j => simp [ivI] at hu
set_option maxHeartbeats 16000000 in
theorem mend_calls (d p : Int) (D A : Option Addr) (cd ca B : Nat) (ds : List Dk) (os : List Ob) (x : Int) (w : World) (hnd : ds.length ≤ cd) (hcd : cd ≤ 9223372036854775807) (hna : os.length ≤ ca) (hca : ca ≤ 9223372036854775807) (hd : RD B w D ds) (hs : RO B w A os) (hl : ∀ o ∈ os, Lh o.name) :
  Calls Try.prog 35 #[Tv d p (.slice D ds.length cd) (.slice A os.length ca), .int .i64 x] w (MPost w (menS d p ds os x) (menD d p ds os x) (menE d p ds os x)) := by
 have HD := Lib.hid hd
 have HS := Lib.hid hs
 have HL := Lib.hid hl
 clear hd hs hl
 by_cases ck : chS d p ds os = 0
 rotate_left
 ·skip
  have E := menE_bad (x := x) ck
  obtain ⟨S1, S2⟩ := men_err E (by first | exact ck | decide | assumption)
  rw [E, S1, S2]
  clear E S1 S2
  go_enter Try.func35, Try.ntmps35
  go_upto_region 1 with fail
  have SB : Hid (((w.alloc (.cells #[.int .i64 d, .int .i64 p, .slice D ds.length cd, .slice A os.length ca] 25)).alloc (.cells #[.int .i64 0, .int .i64 0, .slice none 0 0, .slice none 0 0] 25)).heap[w.heap.size]? = some (.cells #[.int .i64 d, .int .i64 p, .slice D ds.length cd, .slice A os.length ca] 25)) := Lib.hid (blk_alloc (blk_new w _) _)
  have XB : Hid (((w.alloc (.cells #[.int .i64 d, .int .i64 p, .slice D ds.length cd, .slice A os.length ca] 25)).alloc (.cells #[.int .i64 0, .int .i64 0, .slice none 0 0, .slice none 0 0] 25)).heap[w.heap.size + 1]? = some (.cells #[.int .i64 0, .int .i64 0, .slice none 0 0, .slice none 0 0] 25)) := Lib.hid (blk_at _ (by simp))
  have NN : Hid (Below w.heap.size w ((w.alloc (.cells #[.int .i64 d, .int .i64 p, .slice D ds.length cd, .slice A os.length ca] 25)).alloc (.cells #[.int .i64 0, .int .i64 0, .slice none 0 0, .slice none 0 0] 25))) := Lib.hid (Bal (Bal (Below.refl _ _) _) _)
  generalize ((w.alloc (.cells #[.int .i64 d, .int .i64 p, .slice D ds.length cd, .slice A os.length ca] 25)).alloc (.cells #[.int .i64 0, .int .i64 0, .slice none 0 0, .slice none 0 0] 25)) = W0 at *
  have s0 := blk_cell SB.out 0 _ rfl
  have s1 := blk_cell SB.out 1 _ rfl
  have s2 := blk_cell SB.out 2 _ rfl
  have s3 := blk_cell SB.out 3 _ rfl
  have ls := blk_lt SB.out
  go_wp2_with fail
  clear s0 s1 s2 s3 ls
  refine (open_bad d p D A cd ca B ds os _ hnd hcd hna hca (HD.out.next NN.out) (HS.out.next NN.out) HL.out ck).mono ?_
  rintro e w1 ⟨v, u, rfl, ht, hu, hb⟩
  obtain ⟨Av, cv, rfl, hv1, hv2⟩ := ht.form
  obtain ⟨Au, cu, rfl, hu1, hu2⟩ := hu.form
  replace SB := Lib.hid (blk_next hb SB.out)
  replace XB := Lib.hid (blk_next hb XB.out)
  replace NN := Lib.hid (Bgo NN.out hb)
  clear hb
  have ck2 : (chS d p ds os != 0) = true := by rw [bne_iff_ne]; exact ck
  go_upto_region 2 with fail
  have B9 : Below w1.heap.size w1 (w1.alloc (.cells #[.int .i64 noS.1, .int .i64 noS.2.1, .slice Av noS.2.2.1.length cv, .slice Au noS.2.2.2.length cu, .int .i64 0, .int .i64 0] 79)) := Bal (Below.refl _ _) _
  replace SB := Lib.hid (blk_next B9 SB.out)
  replace XB := Lib.hid (blk_next B9 XB.out)
  replace NN := Lib.hid (Bgo NN.out B9)
  clear B9 ht hu
  generalize (w1.alloc (.cells #[.int .i64 noS.1, .int .i64 noS.2.1, .slice Av noS.2.2.1.length cv, .slice Au noS.2.2.2.length cu, .int .i64 0, .int .i64 0] 79)) = W1 at *
  have x0 := blk_cell XB.out 0 _ rfl
  have fx0 := blk_frozen XB.out 0
  have x1 := blk_cell XB.out 1 _ rfl
  have fx1 := blk_frozen XB.out 1
  have x2 := blk_cell XB.out 2 _ rfl
  have fx2 := blk_frozen XB.out 2
  have x3 := blk_cell XB.out 3 _ rfl
  have fx3 := blk_frozen XB.out 3
  have lx := blk_lt XB.out
  go_wp2_with fail
  have Z := blk_set4 XB.out (.int .i64 0) (.int .i64 0) (.slice none 0 0) (.slice none 0 0)
  have e0 := blk_cell Z 0 _ rfl
  have e1 := blk_cell Z 1 _ rfl
  have e2 := blk_cell Z 2 _ rfl
  have e3 := blk_cell Z 3 _ rfl
  exact bodyPost_ret (v := .tuple #[Tv 0 0 (.slice none 0 0) (.slice none 0 0), .int .i64 0, .int .i64 (chS d p ds os)]) (by simp [results, Try.results35, go_sem, e0, e1, e2, e3]) rfl ⟨_, _, rfl, OT.nil _ _, OO.nil _ _, Bset4 NN.out (by omega) _ _ _ _⟩
 have OK := Lib.hid (chS_ok ck)
 have n16 := OK.out.n16
 have n20 : ds.length ≤ 12 := by have := OK.out.len; have := OK.out.d8; have := OK.out.p4; omega
 by_cases q0 : x < 0
 ·have t_q0 : decide (x < 0) = true := decide_eq_true q0
  have E := menE_arg (x := x) (os := os) ck (fun h => by omega)
  obtain ⟨S1, S2⟩ := men_err E (by first | exact ck | decide | assumption)
  rw [E, S1, S2]
  clear E S1 S2
  go_enter Try.func35, Try.ntmps35
  go_upto_region 1 with fail
  have SB : Hid (((w.alloc (.cells #[.int .i64 d, .int .i64 p, .slice D ds.length cd, .slice A os.length ca] 25)).alloc (.cells #[.int .i64 0, .int .i64 0, .slice none 0 0, .slice none 0 0] 25)).heap[w.heap.size]? = some (.cells #[.int .i64 d, .int .i64 p, .slice D ds.length cd, .slice A os.length ca] 25)) := Lib.hid (blk_alloc (blk_new w _) _)
  have XB : Hid (((w.alloc (.cells #[.int .i64 d, .int .i64 p, .slice D ds.length cd, .slice A os.length ca] 25)).alloc (.cells #[.int .i64 0, .int .i64 0, .slice none 0 0, .slice none 0 0] 25)).heap[w.heap.size + 1]? = some (.cells #[.int .i64 0, .int .i64 0, .slice none 0 0, .slice none 0 0] 25)) := Lib.hid (blk_at _ (by simp))
  have NN : Hid (Below w.heap.size w ((w.alloc (.cells #[.int .i64 d, .int .i64 p, .slice D ds.length cd, .slice A os.length ca] 25)).alloc (.cells #[.int .i64 0, .int .i64 0, .slice none 0 0, .slice none 0 0] 25))) := Lib.hid (Bal (Bal (Below.refl _ _) _) _)
  generalize ((w.alloc (.cells #[.int .i64 d, .int .i64 p, .slice D ds.length cd, .slice A os.length ca] 25)).alloc (.cells #[.int .i64 0, .int .i64 0, .slice none 0 0, .slice none 0 0] 25)) = W0 at *
  have s0 := blk_cell SB.out 0 _ rfl
  have s1 := blk_cell SB.out 1 _ rfl
  have s2 := blk_cell SB.out 2 _ rfl
  have s3 := blk_cell SB.out 3 _ rfl
  have ls := blk_lt SB.out
  go_wp2_with fail
  clear s0 s1 s2 s3 ls
  refine (open_ok d p D A cd ca B ds os _ hnd hcd hna hca (HD.out.next NN.out) (HS.out.next NN.out) HL.out ck).mono ?_
  rintro e w1 ⟨v, u, rfl, ht, hu, hb⟩
  have T := Lib.hid (ht.mono NN.out.size)
  have U := Lib.hid (hu.mono NN.out.size)
  clear ht hu
  simp only at T U
  obtain ⟨Av, cv, rfl, hv1, hv2⟩ := T.out.form
  obtain ⟨Au, cu, rfl, hu1, hu2⟩ := U.out.form
  replace SB := Lib.hid (blk_next hb SB.out)
  replace XB := Lib.hid (blk_next hb XB.out)
  replace NN := Lib.hid (Bgo NN.out hb)
  clear hb
  go_upto_region 2 with fail
  have HB : Hid ((w1.alloc (.cells #[.int .i64 d, .int .i64 p, .slice Av ds.length cv, .slice Au os.length cu, .int .i64 (strN os), .int .i64 (faN ds)] 79)).heap[w1.heap.size]? = some (.cells #[.int .i64 d, .int .i64 p, .slice Av ds.length cv, .slice Au os.length cu, .int .i64 (strN os), .int .i64 (faN ds)] 79)) := Lib.hid (blk_new _ _)
  have B9 : Below w1.heap.size w1 (w1.alloc (.cells #[.int .i64 d, .int .i64 p, .slice Av ds.length cv, .slice Au os.length cu, .int .i64 (strN os), .int .i64 (faN ds)] 79)) := Bal (Below.refl _ _) _
  have LX : w.heap.size + 1 < w1.heap.size := blk_lt XB.out
  replace SB := Lib.hid (blk_next B9 SB.out)
  replace XB := Lib.hid (blk_next B9 XB.out)
  replace NN := Lib.hid (Bgo NN.out B9)
  replace T := Lib.hid (T.out.next B9)
  replace U := Lib.hid (U.out.next B9)
  clear B9
  generalize (w1.alloc (.cells #[.int .i64 d, .int .i64 p, .slice Av ds.length cv, .slice Au os.length cu, .int .i64 (strN os), .int .i64 (faN ds)] 79)) = W1 at *
  generalize w1.heap.size = gh at *
  have h0 := blk_cell HB.out 0 _ rfl
  have h1 := blk_cell HB.out 1 _ rfl
  have h2 := blk_cell HB.out 2 _ rfl
  have h3 := blk_cell HB.out 3 _ rfl
  have h4 := blk_cell HB.out 4 _ rfl
  have h5 := blk_cell HB.out 5 _ rfl
  have lh := blk_lt HB.out
  have x0 := blk_cell XB.out 0 _ rfl
  have fx0 := blk_frozen XB.out 0
  have x1 := blk_cell XB.out 1 _ rfl
  have fx1 := blk_frozen XB.out 1
  have x2 := blk_cell XB.out 2 _ rfl
  have fx2 := blk_frozen XB.out 2
  have x3 := blk_cell XB.out 3 _ rfl
  have fx3 := blk_frozen XB.out 3
  have lx := blk_lt XB.out
  go_wp2_with fail
  have Z := blk_set4 XB.out (.int .i64 0) (.int .i64 0) (.slice none 0 0) (.slice none 0 0)
  have e0 := blk_cell Z 0 _ rfl
  have e1 := blk_cell Z 1 _ rfl
  have e2 := blk_cell Z 2 _ rfl
  have e3 := blk_cell Z 3 _ rfl
  exact bodyPost_ret (v := .tuple #[Tv 0 0 (.slice none 0 0) (.slice none 0 0), .int .i64 0, .int .i64 (2)]) (by simp [results, Try.results35, go_sem, e0, e1, e2, e3]) rfl ⟨_, _, rfl, OT.nil _ _, OO.nil _ _, Bset4 NN.out (by omega) _ _ _ _⟩
 have t_q0 : decide (x < 0) = false := decide_eq_false q0
 by_cases q1 : strN os ≤ x
 ·have t_q1 : decide (strN os ≤ x) = true := decide_eq_true q1
  have E := menE_arg (x := x) (os := os) ck (fun h => by omega)
  obtain ⟨S1, S2⟩ := men_err E (by first | exact ck | decide | assumption)
  rw [E, S1, S2]
  clear E S1 S2
  go_enter Try.func35, Try.ntmps35
  go_upto_region 1 with fail
  have SB : Hid (((w.alloc (.cells #[.int .i64 d, .int .i64 p, .slice D ds.length cd, .slice A os.length ca] 25)).alloc (.cells #[.int .i64 0, .int .i64 0, .slice none 0 0, .slice none 0 0] 25)).heap[w.heap.size]? = some (.cells #[.int .i64 d, .int .i64 p, .slice D ds.length cd, .slice A os.length ca] 25)) := Lib.hid (blk_alloc (blk_new w _) _)
  have XB : Hid (((w.alloc (.cells #[.int .i64 d, .int .i64 p, .slice D ds.length cd, .slice A os.length ca] 25)).alloc (.cells #[.int .i64 0, .int .i64 0, .slice none 0 0, .slice none 0 0] 25)).heap[w.heap.size + 1]? = some (.cells #[.int .i64 0, .int .i64 0, .slice none 0 0, .slice none 0 0] 25)) := Lib.hid (blk_at _ (by simp))
  have NN : Hid (Below w.heap.size w ((w.alloc (.cells #[.int .i64 d, .int .i64 p, .slice D ds.length cd, .slice A os.length ca] 25)).alloc (.cells #[.int .i64 0, .int .i64 0, .slice none 0 0, .slice none 0 0] 25))) := Lib.hid (Bal (Bal (Below.refl _ _) _) _)
  generalize ((w.alloc (.cells #[.int .i64 d, .int .i64 p, .slice D ds.length cd, .slice A os.length ca] 25)).alloc (.cells #[.int .i64 0, .int .i64 0, .slice none 0 0, .slice none 0 0] 25)) = W0 at *
  have s0 := blk_cell SB.out 0 _ rfl
  have s1 := blk_cell SB.out 1 _ rfl
  have s2 := blk_cell SB.out 2 _ rfl
  have s3 := blk_cell SB.out 3 _ rfl
  have ls := blk_lt SB.out
  go_wp2_with fail
  clear s0 s1 s2 s3 ls
  refine (open_ok d p D A cd ca B ds os _ hnd hcd hna hca (HD.out.next NN.out) (HS.out.next NN.out) HL.out ck).mono ?_
  rintro e w1 ⟨v, u, rfl, ht, hu, hb⟩
  have T := Lib.hid (ht.mono NN.out.size)
  have U := Lib.hid (hu.mono NN.out.size)
  clear ht hu
  simp only at T U
  obtain ⟨Av, cv, rfl, hv1, hv2⟩ := T.out.form
  obtain ⟨Au, cu, rfl, hu1, hu2⟩ := U.out.form
  replace SB := Lib.hid (blk_next hb SB.out)
  replace XB := Lib.hid (blk_next hb XB.out)
  replace NN := Lib.hid (Bgo NN.out hb)
  clear hb
  go_upto_region 2 with fail
  have HB : Hid ((w1.alloc (.cells #[.int .i64 d, .int .i64 p, .slice Av ds.length cv, .slice Au os.length cu, .int .i64 (strN os), .int .i64 (faN ds)] 79)).heap[w1.heap.size]? = some (.cells #[.int .i64 d, .int .i64 p, .slice Av ds.length cv, .slice Au os.length cu, .int .i64 (strN os), .int .i64 (faN ds)] 79)) := Lib.hid (blk_new _ _)
  have B9 : Below w1.heap.size w1 (w1.alloc (.cells #[.int .i64 d, .int .i64 p, .slice Av ds.length cv, .slice Au os.length cu, .int .i64 (strN os), .int .i64 (faN ds)] 79)) := Bal (Below.refl _ _) _
  have LX : w.heap.size + 1 < w1.heap.size := blk_lt XB.out
  replace SB := Lib.hid (blk_next B9 SB.out)
  replace XB := Lib.hid (blk_next B9 XB.out)
  replace NN := Lib.hid (Bgo NN.out B9)
  replace T := Lib.hid (T.out.next B9)
  replace U := Lib.hid (U.out.next B9)
  clear B9
  generalize (w1.alloc (.cells #[.int .i64 d, .int .i64 p, .slice Av ds.length cv, .slice Au os.length cu, .int .i64 (strN os), .int .i64 (faN ds)] 79)) = W1 at *
  generalize w1.heap.size = gh at *
  have h0 := blk_cell HB.out 0 _ rfl
  have h1 := blk_cell HB.out 1 _ rfl
  have h2 := blk_cell HB.out 2 _ rfl
  have h3 := blk_cell HB.out 3 _ rfl
  have h4 := blk_cell HB.out 4 _ rfl
  have h5 := blk_cell HB.out 5 _ rfl
  have lh := blk_lt HB.out
  have x0 := blk_cell XB.out 0 _ rfl
  have fx0 := blk_frozen XB.out 0
  have x1 := blk_cell XB.out 1 _ rfl
  have fx1 := blk_frozen XB.out 1
  have x2 := blk_cell XB.out 2 _ rfl
  have fx2 := blk_frozen XB.out 2
  have x3 := blk_cell XB.out 3 _ rfl
  have fx3 := blk_frozen XB.out 3
  have lx := blk_lt XB.out
  go_wp2_with fail
  have Z := blk_set4 XB.out (.int .i64 0) (.int .i64 0) (.slice none 0 0) (.slice none 0 0)
  have e0 := blk_cell Z 0 _ rfl
  have e1 := blk_cell Z 1 _ rfl
  have e2 := blk_cell Z 2 _ rfl
  have e3 := blk_cell Z 3 _ rfl
  exact bodyPost_ret (v := .tuple #[Tv 0 0 (.slice none 0 0) (.slice none 0 0), .int .i64 0, .int .i64 (2)]) (by simp [results, Try.results35, go_sem, e0, e1, e2, e3]) rfl ⟨_, _, rfl, OT.nil _ _, OO.nil _ _, Bset4 NN.out (by omega) _ _ _ _⟩
 have t_q1 : decide (strN os ≤ x) = false := decide_eq_false q1
 obtain ⟨k, rfl⟩ : ∃ k : Nat, x = (k : Int) := ⟨x.toNat, by omega⟩
 have hk : (k : Int) < strN os := by omega
 have E := Lib.hid (menE_at ck hk)
 have HKB : Hid (∀ x ∈ ds, x.failed = false → k < x.blocks.length) := Lib.hid (fun x hx hf => by have := ((OK.out.dkl hx).2 hf).1; omega)
 have HF := Lib.hid (men_found OK.out hk)
 have q01 : (0 : Int) ≤ (k : Int) := by omega
 have HFV : Hid (fndV d p (strp ds k) = ((fndV d p (strp ds k)).1, (fndV d p (strp ds k)).2)) := Lib.hid rfl
 have L5 := Lib.hid (strp_len ds k)
 skip
 generalize hfe : (fndV d p (strp ds k)).2 = fe at *
 generalize hfd : (fndV d p (strp ds k)).1 = fd at *
 by_cases h1 : fe = 0
 rotate_left
 ·have t1 : (fe != 0) = true := by rw [bne_iff_ne]; exact h1
  have E := E.out
  obtain ⟨S1, S2⟩ := men_err E (by first | exact ck | decide | assumption)
  rw [E, S1, S2]
  clear E S1 S2
  go_enter Try.func35, Try.ntmps35
  go_upto_region 1 with fail
  have SB : Hid (((w.alloc (.cells #[.int .i64 d, .int .i64 p, .slice D ds.length cd, .slice A os.length ca] 25)).alloc (.cells #[.int .i64 0, .int .i64 0, .slice none 0 0, .slice none 0 0] 25)).heap[w.heap.size]? = some (.cells #[.int .i64 d, .int .i64 p, .slice D ds.length cd, .slice A os.length ca] 25)) := Lib.hid (blk_alloc (blk_new w _) _)
  have XB : Hid (((w.alloc (.cells #[.int .i64 d, .int .i64 p, .slice D ds.length cd, .slice A os.length ca] 25)).alloc (.cells #[.int .i64 0, .int .i64 0, .slice none 0 0, .slice none 0 0] 25)).heap[w.heap.size + 1]? = some (.cells #[.int .i64 0, .int .i64 0, .slice none 0 0, .slice none 0 0] 25)) := Lib.hid (blk_at _ (by simp))
  have NN : Hid (Below w.heap.size w ((w.alloc (.cells #[.int .i64 d, .int .i64 p, .slice D ds.length cd, .slice A os.length ca] 25)).alloc (.cells #[.int .i64 0, .int .i64 0, .slice none 0 0, .slice none 0 0] 25))) := Lib.hid (Bal (Bal (Below.refl _ _) _) _)
  generalize ((w.alloc (.cells #[.int .i64 d, .int .i64 p, .slice D ds.length cd, .slice A os.length ca] 25)).alloc (.cells #[.int .i64 0, .int .i64 0, .slice none 0 0, .slice none 0 0] 25)) = W0 at *
  have s0 := blk_cell SB.out 0 _ rfl
  have s1 := blk_cell SB.out 1 _ rfl
  have s2 := blk_cell SB.out 2 _ rfl
  have s3 := blk_cell SB.out 3 _ rfl
  have ls := blk_lt SB.out
  go_wp2_with fail
  clear s0 s1 s2 s3 ls
  refine (open_ok d p D A cd ca B ds os _ hnd hcd hna hca (HD.out.next NN.out) (HS.out.next NN.out) HL.out ck).mono ?_
  rintro e w1 ⟨v, u, rfl, ht, hu, hb⟩
  have T := Lib.hid (ht.mono NN.out.size)
  have U := Lib.hid (hu.mono NN.out.size)
  clear ht hu
  simp only at T U
  obtain ⟨Av, cv, rfl, hv1, hv2⟩ := T.out.form
  obtain ⟨Au, cu, rfl, hu1, hu2⟩ := U.out.form
  replace SB := Lib.hid (blk_next hb SB.out)
  replace XB := Lib.hid (blk_next hb XB.out)
  replace NN := Lib.hid (Bgo NN.out hb)
  clear hb
  go_upto_region 2 with fail
  have HB : Hid ((w1.alloc (.cells #[.int .i64 d, .int .i64 p, .slice Av ds.length cv, .slice Au os.length cu, .int .i64 (strN os), .int .i64 (faN ds)] 79)).heap[w1.heap.size]? = some (.cells #[.int .i64 d, .int .i64 p, .slice Av ds.length cv, .slice Au os.length cu, .int .i64 (strN os), .int .i64 (faN ds)] 79)) := Lib.hid (blk_new _ _)
  have B9 : Below w1.heap.size w1 (w1.alloc (.cells #[.int .i64 d, .int .i64 p, .slice Av ds.length cv, .slice Au os.length cu, .int .i64 (strN os), .int .i64 (faN ds)] 79)) := Bal (Below.refl _ _) _
  have LX : w.heap.size + 1 < w1.heap.size := blk_lt XB.out
  replace SB := Lib.hid (blk_next B9 SB.out)
  replace XB := Lib.hid (blk_next B9 XB.out)
  replace NN := Lib.hid (Bgo NN.out B9)
  replace T := Lib.hid (T.out.next B9)
  replace U := Lib.hid (U.out.next B9)
  clear B9
  generalize (w1.alloc (.cells #[.int .i64 d, .int .i64 p, .slice Av ds.length cv, .slice Au os.length cu, .int .i64 (strN os), .int .i64 (faN ds)] 79)) = W1 at *
  generalize w1.heap.size = gh at *
  have h0 := blk_cell HB.out 0 _ rfl
  have h1 := blk_cell HB.out 1 _ rfl
  have h2 := blk_cell HB.out 2 _ rfl
  have h3 := blk_cell HB.out 3 _ rfl
  have h4 := blk_cell HB.out 4 _ rfl
  have h5 := blk_cell HB.out 5 _ rfl
  have lh := blk_lt HB.out
  go_wp2_with fail
  clear h0 h1 h2 h3 h4 h5 lh
  refine (stripe_calls d p Av Au cv os.length cu w.heap.size (strN os) (faN ds : Int) ds k _ hv1 hv2 T.out.rd (by omega) HKB.out).mono ?_
  rintro e w5 ⟨v5, rfl, hm5, hb5⟩
  obtain ⟨A5, c5, rfl, h51, h52, h53⟩ := hm5
  have R5 := Lib.hid h53
  clear h53
  go_upto_region 7 with fail
  have QB : Hid ((w5.alloc (.cells #[.int .i64 d, .int .i64 p, .slice A5 (strp ds k).length c5] 54)).heap[w5.heap.size]? = some (.cells #[.int .i64 d, .int .i64 p, .slice A5 (strp ds k).length c5] 54)) := Lib.hid (blk_new _ _)
  have N5 : Hid (Below W1.heap.size W1 (w5.alloc (.cells #[.int .i64 d, .int .i64 p, .slice A5 (strp ds k).length c5] 54))) := Lib.hid (Bal hb5 _)
  replace R5 := Lib.hid (R5.out.next (Bal (Below.refl _ _) (.cells #[.int .i64 d, .int .i64 p, .slice A5 (strp ds k).length c5] 54)))
  have L5w : W1.heap.size ≤ w5.heap.size := hb5.size
  clear hb5
  generalize (w5.alloc (.cells #[.int .i64 d, .int .i64 p, .slice A5 (strp ds k).length c5] 54)) = W5 at *
  generalize w5.heap.size = gq at *
  have q0 := blk_cell QB.out 0 _ rfl
  have q1 := blk_cell QB.out 1 _ rfl
  have q2 := blk_cell QB.out 2 _ rfl
  have lq := blk_lt QB.out
  go_wp2_with fail
  clear q0 q1 q2 lq
  refine (find_calls d p A5 c5 0 (strp ds k) _ h51 h52 R5.out).mono ?_
  rintro e w6 ⟨rfl, hb6⟩
  replace QB := Lib.hid (blk_next hb6 QB.out)
  replace N5 := Lib.hid (Bgo N5.out hb6)
  replace R5 := Lib.hid (R5.out.next hb6)
  have N6 := N5
  clear hb6 N5
  rw [hfe, hfd]
  have XB1 := Lib.hid (blk_next N6.out XB.out)
  have NN1 := Lib.hid (Bgo NN.out N6.out)
  have HB1 := Lib.hid (blk_next N6.out HB.out)
  replace XB := XB1
  replace NN := NN1
  clear XB1 NN1
  have x0 := blk_cell XB.out 0 _ rfl
  have fx0 := blk_frozen XB.out 0
  have x1 := blk_cell XB.out 1 _ rfl
  have fx1 := blk_frozen XB.out 1
  have x2 := blk_cell XB.out 2 _ rfl
  have fx2 := blk_frozen XB.out 2
  have x3 := blk_cell XB.out 3 _ rfl
  have fx3 := blk_frozen XB.out 3
  have lx := blk_lt XB.out
  go_wp2_with fail
  have Z := blk_set4 XB.out (.int .i64 0) (.int .i64 0) (.slice none 0 0) (.slice none 0 0)
  have e0 := blk_cell Z 0 _ rfl
  have e1 := blk_cell Z 1 _ rfl
  have e2 := blk_cell Z 2 _ rfl
  have e3 := blk_cell Z 3 _ rfl
  exact bodyPost_ret (v := .tuple #[Tv 0 0 (.slice none 0 0) (.slice none 0 0), .int .i64 0, .int .i64 (fe)]) (by simp [results, Try.results35, go_sem, e0, e1, e2, e3]) rfl ⟨_, _, rfl, OT.nil _ _, OO.nil _ _, Bset4 NN.out (by omega) _ _ _ _⟩
 subst h1
 skip
 by_cases h2 : fd < 0
 ·have t2 : decide (fd < 0) = true := decide_eq_true h2
  obtain ⟨S1, S2⟩ := men_sound E.out (by rw [hfd]; exact h2)
  rw [hfd] at S2
  rw [E.out, S1, S2]
  clear S1 S2
  have hfd1 : fd = -1 := by
   have h9 := hfd; rw [← h9] at h2; rw [← h9]; unfold fndV at h2 ⊢; split; · rename_i h0; rw [if_pos h0] at h2; exact absurd h2 (show ¬ ((0 : Int) < 0) by decide)
   ·rename_i h0; rw [if_neg h0] at h2; split; · rename_i h3; rw [if_pos h3] at h2; exact absurd h2 (show ¬ ((0 : Int) < 0) by decide)
    ·rename_i h3; rw [if_neg h3] at h2; split; · rfl
     ·rename_i h4; rw [if_neg h4] at h2; split; · rename_i h5; rw [if_pos h5] at h2; exact absurd h2 (show ¬ ((0 : Int) < 0) by decide)
      ·rename_i h5; rw [if_neg h5] at h2; omega
  subst hfd1
  go_enter Try.func35, Try.ntmps35
  go_upto_region 1 with fail
  have SB : Hid (((w.alloc (.cells #[.int .i64 d, .int .i64 p, .slice D ds.length cd, .slice A os.length ca] 25)).alloc (.cells #[.int .i64 0, .int .i64 0, .slice none 0 0, .slice none 0 0] 25)).heap[w.heap.size]? = some (.cells #[.int .i64 d, .int .i64 p, .slice D ds.length cd, .slice A os.length ca] 25)) := Lib.hid (blk_alloc (blk_new w _) _)
  have XB : Hid (((w.alloc (.cells #[.int .i64 d, .int .i64 p, .slice D ds.length cd, .slice A os.length ca] 25)).alloc (.cells #[.int .i64 0, .int .i64 0, .slice none 0 0, .slice none 0 0] 25)).heap[w.heap.size + 1]? = some (.cells #[.int .i64 0, .int .i64 0, .slice none 0 0, .slice none 0 0] 25)) := Lib.hid (blk_at _ (by simp))
  have NN : Hid (Below w.heap.size w ((w.alloc (.cells #[.int .i64 d, .int .i64 p, .slice D ds.length cd, .slice A os.length ca] 25)).alloc (.cells #[.int .i64 0, .int .i64 0, .slice none 0 0, .slice none 0 0] 25))) := Lib.hid (Bal (Bal (Below.refl _ _) _) _)
  generalize ((w.alloc (.cells #[.int .i64 d, .int .i64 p, .slice D ds.length cd, .slice A os.length ca] 25)).alloc (.cells #[.int .i64 0, .int .i64 0, .slice none 0 0, .slice none 0 0] 25)) = W0 at *
  have s0 := blk_cell SB.out 0 _ rfl
  have s1 := blk_cell SB.out 1 _ rfl
  have s2 := blk_cell SB.out 2 _ rfl
  have s3 := blk_cell SB.out 3 _ rfl
  have ls := blk_lt SB.out
  go_wp2_with fail
  clear s0 s1 s2 s3 ls
  refine (open_ok d p D A cd ca B ds os _ hnd hcd hna hca (HD.out.next NN.out) (HS.out.next NN.out) HL.out ck).mono ?_
  rintro e w1 ⟨v, u, rfl, ht, hu, hb⟩
  have T := Lib.hid (ht.mono NN.out.size)
  have U := Lib.hid (hu.mono NN.out.size)
  clear ht hu
  simp only at T U
  obtain ⟨Av, cv, rfl, hv1, hv2⟩ := T.out.form
  obtain ⟨Au, cu, rfl, hu1, hu2⟩ := U.out.form
  replace SB := Lib.hid (blk_next hb SB.out)
  replace XB := Lib.hid (blk_next hb XB.out)
  replace NN := Lib.hid (Bgo NN.out hb)
  clear hb
  go_upto_region 2 with fail
  have HB : Hid ((w1.alloc (.cells #[.int .i64 d, .int .i64 p, .slice Av ds.length cv, .slice Au os.length cu, .int .i64 (strN os), .int .i64 (faN ds)] 79)).heap[w1.heap.size]? = some (.cells #[.int .i64 d, .int .i64 p, .slice Av ds.length cv, .slice Au os.length cu, .int .i64 (strN os), .int .i64 (faN ds)] 79)) := Lib.hid (blk_new _ _)
  have B9 : Below w1.heap.size w1 (w1.alloc (.cells #[.int .i64 d, .int .i64 p, .slice Av ds.length cv, .slice Au os.length cu, .int .i64 (strN os), .int .i64 (faN ds)] 79)) := Bal (Below.refl _ _) _
  have LX : w.heap.size + 1 < w1.heap.size := blk_lt XB.out
  replace SB := Lib.hid (blk_next B9 SB.out)
  replace XB := Lib.hid (blk_next B9 XB.out)
  replace NN := Lib.hid (Bgo NN.out B9)
  replace T := Lib.hid (T.out.next B9)
  replace U := Lib.hid (U.out.next B9)
  clear B9
  generalize (w1.alloc (.cells #[.int .i64 d, .int .i64 p, .slice Av ds.length cv, .slice Au os.length cu, .int .i64 (strN os), .int .i64 (faN ds)] 79)) = W1 at *
  generalize w1.heap.size = gh at *
  have h0 := blk_cell HB.out 0 _ rfl
  have h1 := blk_cell HB.out 1 _ rfl
  have h2 := blk_cell HB.out 2 _ rfl
  have h3 := blk_cell HB.out 3 _ rfl
  have h4 := blk_cell HB.out 4 _ rfl
  have h5 := blk_cell HB.out 5 _ rfl
  have lh := blk_lt HB.out
  go_wp2_with fail
  clear h0 h1 h2 h3 h4 h5 lh
  refine (stripe_calls d p Av Au cv os.length cu w.heap.size (strN os) (faN ds : Int) ds k _ hv1 hv2 T.out.rd (by omega) HKB.out).mono ?_
  rintro e w5 ⟨v5, rfl, hm5, hb5⟩
  obtain ⟨A5, c5, rfl, h51, h52, h53⟩ := hm5
  have R5 := Lib.hid h53
  clear h53
  go_upto_region 7 with fail
  have QB : Hid ((w5.alloc (.cells #[.int .i64 d, .int .i64 p, .slice A5 (strp ds k).length c5] 54)).heap[w5.heap.size]? = some (.cells #[.int .i64 d, .int .i64 p, .slice A5 (strp ds k).length c5] 54)) := Lib.hid (blk_new _ _)
  have N5 : Hid (Below W1.heap.size W1 (w5.alloc (.cells #[.int .i64 d, .int .i64 p, .slice A5 (strp ds k).length c5] 54))) := Lib.hid (Bal hb5 _)
  replace R5 := Lib.hid (R5.out.next (Bal (Below.refl _ _) (.cells #[.int .i64 d, .int .i64 p, .slice A5 (strp ds k).length c5] 54)))
  have L5w : W1.heap.size ≤ w5.heap.size := hb5.size
  clear hb5
  generalize (w5.alloc (.cells #[.int .i64 d, .int .i64 p, .slice A5 (strp ds k).length c5] 54)) = W5 at *
  generalize w5.heap.size = gq at *
  have q0 := blk_cell QB.out 0 _ rfl
  have q1 := blk_cell QB.out 1 _ rfl
  have q2 := blk_cell QB.out 2 _ rfl
  have lq := blk_lt QB.out
  go_wp2_with fail
  clear q0 q1 q2 lq
  refine (find_calls d p A5 c5 0 (strp ds k) _ h51 h52 R5.out).mono ?_
  rintro e w6 ⟨rfl, hb6⟩
  replace QB := Lib.hid (blk_next hb6 QB.out)
  replace N5 := Lib.hid (Bgo N5.out hb6)
  replace R5 := Lib.hid (R5.out.next hb6)
  have N6 := N5
  clear hb6 N5
  rw [hfe, hfd]
  have XB1 := Lib.hid (blk_next N6.out XB.out)
  have NN1 := Lib.hid (Bgo NN.out N6.out)
  have HB1 := Lib.hid (blk_next N6.out HB.out)
  have h0 := blk_cell HB1.out 0 _ rfl
  have h1 := blk_cell HB1.out 1 _ rfl
  have h2 := blk_cell HB1.out 2 _ rfl
  have h3 := blk_cell HB1.out 3 _ rfl
  have h4 := blk_cell HB1.out 4 _ rfl
  have h5 := blk_cell HB1.out 5 _ rfl
  have lh := blk_lt HB1.out
  have x0 := blk_cell XB1.out 0 _ rfl
  have fx0 := blk_frozen XB1.out 0
  have x1 := blk_cell XB1.out 1 _ rfl
  have fx1 := blk_frozen XB1.out 1
  have x2 := blk_cell XB1.out 2 _ rfl
  have fx2 := blk_frozen XB1.out 2
  have x3 := blk_cell XB1.out 3 _ rfl
  have fx3 := blk_frozen XB1.out 3
  have lx := blk_lt XB1.out
  have LX1 := blk_lt XB1.out
  go_wp2_with fail
  have Z := blk_set4 XB1.out (.int .i64 d) (.int .i64 p) (.slice Av ds.length cv) (.slice Au os.length cu)
  have e0 := blk_cell Z 0 _ rfl
  have e1 := blk_cell Z 1 _ rfl
  have e2 := blk_cell Z 2 _ rfl
  have e3 := blk_cell Z 3 _ rfl
  exact bodyPost_ret (v := .tuple #[Tv d p (.slice Av ds.length cv) (.slice Au os.length cu), .int .i64 (-1), .int .i64 0]) (by simp [results, Try.results35, go_sem, e0, e1, e2, e3]) rfl ⟨_, _, rfl, OT.set4_ (T.out.next N6.out) XB1.out _ _ _ _, OO.set4_ (U.out.next N6.out) XB1.out _ _ _ _, Bset4 NN1.out (by omega) _ _ _ _⟩
 have t2 : decide (fd < 0) = false := decide_eq_false h2
 obtain ⟨n, e1, FM0⟩ := HF.out rfl (by omega)
 skip
 obtain ⟨S1, S2⟩ := men_wrong E.out (by rw [hfd]; exact e1)
 rw [E.out, S1, S2]
 subst e1
 have FM := Lib.hid FM0
 clear S1 S2 FM0 HF E
 have hn := FM.out.lt
 obtain ⟨k0, hk0⟩ := get_some hn
 have HK := Lib.hid hk0
 have hkl := HKB.out k0 (List.mem_of_getElem? hk0) (FM.out.live k0 hk0)
 obtain ⟨lo, hlo⟩ := get_some hkl
 have q02 : (0 : Int) ≤ (n : Int) := by omega
 have q03 : (n : Int) < (ds.length : Int) := by omega
 have q04 : (k : Int) < (k0.blocks.length : Int) := by omega
 have ED : Hid (menDs d p ds k n = ds.set n ⟨k0.failed, k0.blocks.set k (menL d p ds k n)⟩) := Lib.hid (by unfold menDs; rw [List.getD_eq_getElem?_getD, hk0, Option.getD_some])
 have LC := Lib.hid (fun (A5 : Option Addr) (c5 B5 Bd : Nat) (Ad : Option Addr) (W : World) (h1 : (strp ds k).length ≤ c5) (h2 : c5 ≤ 9223372036854775807) (h3 : RMA B5 W A5 (strp ds k)) (h4 : RI Bd W Ad [(n : Int)]) => lose_calls d p A5 c5 B5 (strp ds k) Ad 1 Bd [(n : Int)] W h1 h2 h3 (by simp) (by omega) h4)
 have RC := Lib.hid (fun (A6 : Option Addr) (c6 B6 : Nat) (W : World) (h1 : (keepL (strp ds k) (goneB [(n : Int)])).length ≤ c6) (h2 : c6 ≤ 9223372036854775807) (h3 : RMA B6 W A6 (keepL (strp ds k) (goneB [(n : Int)]))) => restore_calls d p A6 c6 B6 (keepL (strp ds k) (goneB [(n : Int)])) W h1 h2 h3)
 rw [FM.out.lose, FM.out.loseS] at LC
 rw [FM.out.res] at RC
 have EM : Hid (menL d p ds k n = (resS d p (keepL (strp ds k) (goneB [(n : Int)]))).2.2.getD n []) := Lib.hid rfl
 have R1 := Lib.hid FM.out.rows
 have R8 := Lib.hid FM.out.eight
 have LK := Lib.hid (keepL_len (strp ds k) (goneB [(n : Int)]))
 generalize menL d p ds k n = ml at *
 generalize keepL (strp ds k) (goneB [(n : Int)]) = kl at *
 clear hk0 h2 hkl
 generalize menDs d p ds k n = mds at *
 go_enter Try.func35, Try.ntmps35
 go_upto_region 1 with fail
 have SB : Hid (((w.alloc (.cells #[.int .i64 d, .int .i64 p, .slice D ds.length cd, .slice A os.length ca] 25)).alloc (.cells #[.int .i64 0, .int .i64 0, .slice none 0 0, .slice none 0 0] 25)).heap[w.heap.size]? = some (.cells #[.int .i64 d, .int .i64 p, .slice D ds.length cd, .slice A os.length ca] 25)) := Lib.hid (blk_alloc (blk_new w _) _)
 have XB : Hid (((w.alloc (.cells #[.int .i64 d, .int .i64 p, .slice D ds.length cd, .slice A os.length ca] 25)).alloc (.cells #[.int .i64 0, .int .i64 0, .slice none 0 0, .slice none 0 0] 25)).heap[w.heap.size + 1]? = some (.cells #[.int .i64 0, .int .i64 0, .slice none 0 0, .slice none 0 0] 25)) := Lib.hid (blk_at _ (by simp))
 have NN : Hid (Below w.heap.size w ((w.alloc (.cells #[.int .i64 d, .int .i64 p, .slice D ds.length cd, .slice A os.length ca] 25)).alloc (.cells #[.int .i64 0, .int .i64 0, .slice none 0 0, .slice none 0 0] 25))) := Lib.hid (Bal (Bal (Below.refl _ _) _) _)
 generalize ((w.alloc (.cells #[.int .i64 d, .int .i64 p, .slice D ds.length cd, .slice A os.length ca] 25)).alloc (.cells #[.int .i64 0, .int .i64 0, .slice none 0 0, .slice none 0 0] 25)) = W0 at *
 have s0 := blk_cell SB.out 0 _ rfl
 have s1 := blk_cell SB.out 1 _ rfl
 have s2 := blk_cell SB.out 2 _ rfl
 have s3 := blk_cell SB.out 3 _ rfl
 have ls := blk_lt SB.out
 go_wp2_with fail
 clear s0 s1 s2 s3 ls
 refine (open_ok d p D A cd ca B ds os _ hnd hcd hna hca (HD.out.next NN.out) (HS.out.next NN.out) HL.out ck).mono ?_
 rintro e w1 ⟨v, u, rfl, ht, hu, hb⟩
 have T := Lib.hid (ht.mono NN.out.size)
 have U := Lib.hid (hu.mono NN.out.size)
 clear ht hu
 simp only at T U
 obtain ⟨Av, cv, rfl, hv1, hv2⟩ := T.out.form
 obtain ⟨Au, cu, rfl, hu1, hu2⟩ := U.out.form
 replace SB := Lib.hid (blk_next hb SB.out)
 replace XB := Lib.hid (blk_next hb XB.out)
 replace NN := Lib.hid (Bgo NN.out hb)
 clear hb
 go_upto_region 2 with fail
 have HB : Hid ((w1.alloc (.cells #[.int .i64 d, .int .i64 p, .slice Av ds.length cv, .slice Au os.length cu, .int .i64 (strN os), .int .i64 (faN ds)] 79)).heap[w1.heap.size]? = some (.cells #[.int .i64 d, .int .i64 p, .slice Av ds.length cv, .slice Au os.length cu, .int .i64 (strN os), .int .i64 (faN ds)] 79)) := Lib.hid (blk_new _ _)
 have B9 : Below w1.heap.size w1 (w1.alloc (.cells #[.int .i64 d, .int .i64 p, .slice Av ds.length cv, .slice Au os.length cu, .int .i64 (strN os), .int .i64 (faN ds)] 79)) := Bal (Below.refl _ _) _
 have LX : w.heap.size + 1 < w1.heap.size := blk_lt XB.out
 replace SB := Lib.hid (blk_next B9 SB.out)
 replace XB := Lib.hid (blk_next B9 XB.out)
 replace NN := Lib.hid (Bgo NN.out B9)
 replace T := Lib.hid (T.out.next B9)
 replace U := Lib.hid (U.out.next B9)
 clear B9
 generalize (w1.alloc (.cells #[.int .i64 d, .int .i64 p, .slice Av ds.length cv, .slice Au os.length cu, .int .i64 (strN os), .int .i64 (faN ds)] 79)) = W1 at *
 generalize w1.heap.size = gh at *
 have h0 := blk_cell HB.out 0 _ rfl
 have h1 := blk_cell HB.out 1 _ rfl
 have h2 := blk_cell HB.out 2 _ rfl
 have h3 := blk_cell HB.out 3 _ rfl
 have h4 := blk_cell HB.out 4 _ rfl
 have h5 := blk_cell HB.out 5 _ rfl
 have lh := blk_lt HB.out
 go_wp2_with fail
 clear h0 h1 h2 h3 h4 h5 lh
 refine (stripe_calls d p Av Au cv os.length cu w.heap.size (strN os) (faN ds : Int) ds k _ hv1 hv2 T.out.rd (by omega) HKB.out).mono ?_
 rintro e w5 ⟨v5, rfl, hm5, hb5⟩
 obtain ⟨A5, c5, rfl, h51, h52, h53⟩ := hm5
 have R5 := Lib.hid h53
 clear h53
 go_upto_region 7 with fail
 have QB : Hid ((w5.alloc (.cells #[.int .i64 d, .int .i64 p, .slice A5 (strp ds k).length c5] 54)).heap[w5.heap.size]? = some (.cells #[.int .i64 d, .int .i64 p, .slice A5 (strp ds k).length c5] 54)) := Lib.hid (blk_new _ _)
 have N5 : Hid (Below W1.heap.size W1 (w5.alloc (.cells #[.int .i64 d, .int .i64 p, .slice A5 (strp ds k).length c5] 54))) := Lib.hid (Bal hb5 _)
 replace R5 := Lib.hid (R5.out.next (Bal (Below.refl _ _) (.cells #[.int .i64 d, .int .i64 p, .slice A5 (strp ds k).length c5] 54)))
 have L5w : W1.heap.size ≤ w5.heap.size := hb5.size
 clear hb5
 generalize (w5.alloc (.cells #[.int .i64 d, .int .i64 p, .slice A5 (strp ds k).length c5] 54)) = W5 at *
 generalize w5.heap.size = gq at *
 have q0 := blk_cell QB.out 0 _ rfl
 have q1 := blk_cell QB.out 1 _ rfl
 have q2 := blk_cell QB.out 2 _ rfl
 have lq := blk_lt QB.out
 go_wp2_with fail
 clear q0 q1 q2 lq
 refine (find_calls d p A5 c5 0 (strp ds k) _ h51 h52 R5.out).mono ?_
 rintro e w6 ⟨rfl, hb6⟩
 replace QB := Lib.hid (blk_next hb6 QB.out)
 replace N5 := Lib.hid (Bgo N5.out hb6)
 replace R5 := Lib.hid (R5.out.next hb6)
 have N6 := N5
 clear hb6 N5
 rw [hfe, hfd]
 have XB1 := Lib.hid (blk_next N6.out XB.out)
 have NN1 := Lib.hid (Bgo NN.out N6.out)
 have HB1 := Lib.hid (blk_next N6.out HB.out)
 have LQ : W1.heap.size ≤ gq := L5w
 clear XB1 NN1 HB1
 have N := N6
 clear N6
 have q0 := blk_cell QB.out 0 _ rfl
 have q1 := blk_cell QB.out 1 _ rfl
 have q2 := blk_cell QB.out 2 _ rfl
 have lq := blk_lt QB.out
 go_wp2_with fail
 clear q0 q1 q2 lq
 refine (LC.out A5 c5 _ 0 (some ⟨w6.heap.size, 0, none⟩) _ h51 h52 (R5.out.next (Bal (Below.refl _ _) (.cells #[.int .i64 (n : Int)] 3))) (ri_one _ _)).mono ?_
 rintro e w7 ⟨v7, rfl, hm7, hb7⟩
 replace hb7 := Bgo (Bal (Below.refl w6.heap.size w6) (.cells #[.int .i64 (n : Int)] 3)) hb7
 obtain ⟨us6, hm7⟩ := hm7
 obtain ⟨A6, c6, rfl, h61, h62, _⟩ := own_form hm7.top
 replace N := Lib.hid (Bgo N.out hb7)
 replace QB := Lib.hid (blk_next hb7 QB.out)
 clear hb7 h51 h52 R5
 have q0 := blk_cell QB.out 0 _ rfl
 have fq0 := blk_frozen QB.out 0
 have q1 := blk_cell QB.out 1 _ rfl
 have fq1 := blk_frozen QB.out 1
 have q2 := blk_cell QB.out 2 _ rfl
 have fq2 := blk_frozen QB.out 2
 have lq := blk_lt QB.out
 go_upto_region 13 with fail
 clear q0 fq0 q1 fq1 q2 fq2 lq
 have Q8 : Hid ((((w7.setCell ⟨gq, 0, none⟩ (.int .i64 d)).setCell ⟨gq, 1, none⟩ (.int .i64 p)).setCell ⟨gq, 2, none⟩ (.slice A6 kl.length c6)).heap[gq]? = some (.cells #[.int .i64 d, .int .i64 p, .slice A6 kl.length c6] 54)) := Lib.hid (blk_set (blk_set (blk_set QB.out 0 _) 1 _) 2 _)
 have N8 : Hid (Below W1.heap.size W1 (((w7.setCell ⟨gq, 0, none⟩ (.int .i64 d)).setCell ⟨gq, 1, none⟩ (.int .i64 p)).setCell ⟨gq, 2, none⟩ (.slice A6 kl.length c6))) := Lib.hid (Bset3 N.out LQ _ _ _)
 have M8 : Hid (OMx _ (((w7.setCell ⟨gq, 0, none⟩ (.int .i64 d)).setCell ⟨gq, 1, none⟩ (.int .i64 p)).setCell ⟨gq, 2, none⟩ (.slice A6 kl.length c6)) (.slice A6 kl.length c6) us6 kl) := Lib.hid (((hm7.set_ QB.out ne_st_u8 ne_st_sl (.int .i64 d)).set_ (blk_set QB.out 0 _) ne_st_u8 ne_st_sl (.int .i64 p)).set_ (blk_set (blk_set QB.out 0 _) 1 _) ne_st_u8 ne_st_sl (.slice A6 kl.length c6))
 clear N QB hm7
 generalize (((w7.setCell ⟨gq, 0, none⟩ (.int .i64 d)).setCell ⟨gq, 1, none⟩ (.int .i64 p)).setCell ⟨gq, 2, none⟩ (.slice A6 kl.length c6)) = W8 at *
 have N := N8
 have QB := Q8
 clear N8 Q8
 have LB : W1.heap.size ≤ W8.heap.size := N.out.size
 obtain ⟨A6', c6', e6, h61', h62', RK⟩ := (show OM _ W8 (.slice A6 kl.length c6) kl from ⟨_, M8.out⟩).rm
 injection e6 with e61 e62 e63
 subst e61 e63
 have HRK := Lib.hid RK
 clear RK h61' h62' M8
 have q0 := blk_cell QB.out 0 _ rfl
 have q1 := blk_cell QB.out 1 _ rfl
 have q2 := blk_cell QB.out 2 _ rfl
 have lq := blk_lt QB.out
 go_wp2_with fail
 clear q0 q1 q2 lq
 refine (RC.out A6 c6 _ _ h61 h62 HRK.out).mono ?_
 rintro e w9 ⟨v9, rfl, hm9, hb9⟩
 obtain ⟨us7, hm9⟩ := hm9
 generalize (resS d p kl).2.2 = rows at *
 generalize (resS d p kl).1 = D6 at *
 generalize (resS d p kl).2.1 = M6 at *
 obtain ⟨A7, c7, rfl, h71, h72, _⟩ := own_form hm9.top
 replace N := Lib.hid (Bgo N.out hb9)
 replace QB := Lib.hid (blk_next hb9 QB.out)
 clear hb9 HRK
 have q0 := blk_cell QB.out 0 _ rfl
 have fq0 := blk_frozen QB.out 0
 have q1 := blk_cell QB.out 1 _ rfl
 have fq1 := blk_frozen QB.out 1
 have q2 := blk_cell QB.out 2 _ rfl
 have fq2 := blk_frozen QB.out 2
 have lq := blk_lt QB.out
 go_upto_region 16 with fail
 clear q0 fq0 q1 fq1 q2 fq2 lq
 have Q8 : Hid ((((w9.setCell ⟨gq, 0, none⟩ (.int .i64 D6)).setCell ⟨gq, 1, none⟩ (.int .i64 M6)).setCell ⟨gq, 2, none⟩ (.slice A7 rows.length c7)).heap[gq]? = some (.cells #[.int .i64 D6, .int .i64 M6, .slice A7 rows.length c7] 54)) := Lib.hid (blk_set (blk_set (blk_set QB.out 0 _) 1 _) 2 _)
 have N8 : Hid (Below W1.heap.size W1 (((w9.setCell ⟨gq, 0, none⟩ (.int .i64 D6)).setCell ⟨gq, 1, none⟩ (.int .i64 M6)).setCell ⟨gq, 2, none⟩ (.slice A7 rows.length c7))) := Lib.hid (Bset3 N.out LQ _ _ _)
 have M8 : Hid (OMx _ (((w9.setCell ⟨gq, 0, none⟩ (.int .i64 D6)).setCell ⟨gq, 1, none⟩ (.int .i64 M6)).setCell ⟨gq, 2, none⟩ (.slice A7 rows.length c7)) (.slice A7 rows.length c7) us7 rows) := Lib.hid (((hm9.set_ QB.out ne_st_u8 ne_st_sl (.int .i64 D6)).set_ (blk_set QB.out 0 _) ne_st_u8 ne_st_sl (.int .i64 M6)).set_ (blk_set (blk_set QB.out 0 _) 1 _) ne_st_u8 ne_st_sl (.slice A7 rows.length c7))
 clear N QB hm9
 generalize (((w9.setCell ⟨gq, 0, none⟩ (.int .i64 D6)).setCell ⟨gq, 1, none⟩ (.int .i64 M6)).setCell ⟨gq, 2, none⟩ (.slice A7 rows.length c7)) = W9 at *
 have N := N8
 have QB := Q8
 clear N8 Q8
 have TM := M8
 have PB := QB
 clear M8 QB
 obtain ⟨g, hs, us, rfl, O, hg, hgB⟩ := T.out.some_ (by omega)
 have HO := Lib.hid O
 clear O
 obtain ⟨y, hy⟩ := get_some (show n < hs.length by rw [HO.out.lenH]; exact hn)
 obtain ⟨u, hu⟩ := get_some (show n < us.length by rw [HO.out.lenU]; exact hn)
 have c1 := (N.out.cell hg).trans ((HO.out.top.cellAt (n * 2 + 1) (by omega)).trans (flatD_get HK.out hy).2)
 have RW := HO.out.row n k0 y u HK.out hy hu
 obtain ⟨uk, huk⟩ := get_some (show k < u.length by rw [RW.len]; exact get_lt hlo)
 obtain ⟨Ay, cy, rfl, hy1, hy2, -⟩ := own_form RW.top
 obtain ⟨gt, kk0, kk1, kk2, kk3⟩ := own_cell2 RW.top huk
 subst kk0
 have ct := (N.out.cell kk2).trans kk1
 have TX := Lib.hid (own_next N.out RW.top)
 have ft : W9.frozen? ⟨gt, k, none⟩ = false := TX.out.frozenAt _
 have lgt : gt < W9.heap.size := Nat.lt_of_lt_of_le kk2 N.out.size
 have lg9 : g < W9.heap.size := Nat.lt_of_lt_of_le hg N.out.size
 obtain ⟨l, hl⟩ := get_some (show n < rows.length by rw [R1.out]; exact hn)
 obtain ⟨ru, hru⟩ := get_some (show n < us7.length by rw [TM.out.len, R1.out]; exact hn)
 have q05 : (n : Int) < (rows.length : Int) := by rw [R1.out]; omega
 have OR := Lib.hid (own_mono (TM.out.row n ru l hru hl) LB)
 have HB7 := Lib.hid (TM.out.byt l (List.mem_of_getElem? hl))
 obtain ⟨b7, k71, k72, k73, k74⟩ := own_cell2 TM.out.top hru
 subst k71
 obtain ⟨Ar, cr, hre, hr1, hr9, -⟩ := own_form OR.out
 subst hre
 have EL : Hid (mds = ds.set n ⟨k0.failed, k0.blocks.set k l⟩) := Lib.hid (by rw [ED.out, EM.out, List.getD_eq_getElem?_getD, hl, Option.getD_some])
 replace HB := Lib.hid (blk_next N.out HB.out)
 replace XB := Lib.hid (blk_next N.out XB.out)
 have HHY := Lib.hid hy
 have HHU := Lib.hid hu
 have hne1 : gt ≠ gh := fun e => own_ne TX.out HB.out ne_sl_she (by rw [e]; rfl)
 have hne2 : gt ≠ w.heap.size + 1 := fun e => own_ne TX.out XB.out ne_sl_sto (by rw [e]; rfl)
 have NZ := Lib.hid (Bgo NN.out N.out)
 have LN := NN.out.size
 clear hl hru huk hy hu hlo LK R1 kk1 RW
 skip
 have h0 := blk_cell HB.out 0 _ rfl
 have h1 := blk_cell HB.out 1 _ rfl
 have h2 := blk_cell HB.out 2 _ rfl
 have h3 := blk_cell HB.out 3 _ rfl
 have h4 := blk_cell HB.out 4 _ rfl
 have h5 := blk_cell HB.out 5 _ rfl
 have lh := blk_lt HB.out
 have p0 := blk_cell PB.out 0 _ rfl
 have p1 := blk_cell PB.out 1 _ rfl
 have p2 := blk_cell PB.out 2 _ rfl
 have lp := blk_lt PB.out
 have x0 := blk_cell XB.out 0 _ rfl
 have fx0 := blk_frozen XB.out 0
 have x1 := blk_cell XB.out 1 _ rfl
 have fx1 := blk_frozen XB.out 1
 have x2 := blk_cell XB.out 2 _ rfl
 have fx2 := blk_frozen XB.out 2
 have x3 := blk_cell XB.out 3 _ rfl
 have fx3 := blk_frozen XB.out 3
 have lx := blk_lt XB.out
 go_wp2_with fail
 refine wp_region_still_tail 14 (by kernel_rfl) (by kernel_rfl) ?_
 simp only [List.take_succ_cons, List.take_zero, List.drop_succ_cons, List.drop_zero]
 repeat still_step
 refine wpStill_nil ?_
 go_wp2_with fail
 have P1 := OS.block (l := l) (s := k) HO.out N.out LN HK.out HHY.out HHU.out rfl OR.out HB7.out
 have XY := rw_other (i := k) (x := .slice Ar l.length cr) XB.out TX.out ne_sl_sto
 have UY := OO.rw (i := k) (x := .slice Ar l.length cr) (U.out.next N.out) TX.out
 have NY := Bset1 NZ.out kk3 k (.slice Ar l.length cr)
 rw [← EL.out] at P1
 have Z := blk_set4 XY (.int .i64 d) (.int .i64 p) (.slice (some ⟨g, 0, none⟩) ds.length cv) (.slice Au os.length cu)
 have e0 := blk_cell Z 0 _ rfl
 have e1 := blk_cell Z 1 _ rfl
 have e2 := blk_cell Z 2 _ rfl
 have e3 := blk_cell Z 3 _ rfl
 exact bodyPost_ret (v := .tuple #[Tv d p (.slice (some ⟨g, 0, none⟩) ds.length cv) (.slice Au os.length cu), .int .i64 (n : Int), .int .i64 0]) (by simp [results, Try.results35, go_sem, e0, e1, e2, e3]) rfl ⟨_, _, rfl, OT.next (Below.refl _ _).drew (OT.set4_ ⟨_, _, P1⟩ XY _ _ _ _), OO.next (Below.refl _ _).drew (OO.set4_ UY XY _ _ _ _), (Bset4 NY (by omega) _ _ _ _).drew⟩
end Go.Proofs.Ytapehckcmmompaa
namespace Go.Proofs.Ytapehckcmmompaa
open Go.ChangeShapes Go.WideShapes Go.ChangeAt Go.RowKit
set_option linter.unusedVariables false
set_option maxRecDepth 100000
structure At (B : Nat) (W : World) (A3 : Option Addr) (np : Nat) (us : List (List Value)) (ds : List Dk) (i k a : Nat) (x : Dk) (l : List Nat) (g gt gr cy cr : Nat) (u : List Value) : Prop where
 top : A3 = some ⟨g, 0, none⟩
 np : np = ds.length
 c1 : W.cell? ⟨g, i * 2 + 1, none⟩ = some (.slice (some ⟨gt, 0, none⟩) x.blocks.length cy)
 l1 : g < W.heap.size
 c2 : W.cell? ⟨gt, k, none⟩ = some (.slice (some ⟨gr, 0, none⟩) l.length cr)
 l2 : gt < W.heap.size
 c3 : W.cell? ⟨gr, a, none⟩ = some (.int .u8 ((l.getD a 0 : Nat) : Int))
 f3 : W.frozen? ⟨gr, a, none⟩ = false
 l3 : gr < W.heap.size
 b3 : B ≤ gr
 hu : us[i]? = some u
 hr : u[k]? = some (.slice (some ⟨gr, 0, none⟩) l.length cr)
 row : W.ownsRow B 5 1 (.slice (some ⟨gr, 0, none⟩) l.length cr) l.length (bv l)
 oth : ∀ (b : Nat) (cs : Array Value) (t : TypeId), W.heap[b]? = some (.cells cs t) → 5 ≠ t → gr ≠ b
theorem os_at {B : Nat} {W : World} {A3 : Option Addr} {np c3 : Nat} {hs : List Value} {us : List (List Value)} {ds : List Dk} (O : OS B W (.slice A3 np c3) hs us ds) {i k a : Nat} {x : Dk} {l : List Nat} (hd : ds[i]? = some x) (hl : x.blocks[k]? = some l) (ha : a < l.length) :
  ∃ (g gt gr cy cr : Nat) (u : List Value), At B W A3 np us ds i k a x l g gt gr cy cr u := by
 have hn : np = ds.length := by
  obtain ⟨A', c', e, _⟩ := own_form2 O.top
  simp only [Value.slice.injEq] at e; exact e.2.1
 subst hn
 obtain ⟨g, Ay, nk, cy, u, rfl, hy, hu, _⟩ := os_head O (get_lt hd)
 obtain ⟨c1, l1⟩ := os_cell O hy
 have R := O.row i x _ u hd hy hu
 obtain ⟨A', c', e, _⟩ := own_form R.top
 simp only [Value.slice.injEq] at e
 obtain ⟨-, rfl, -⟩ := e
 obtain ⟨gt, Ar, nr, cr, rfl, hr, c2, l2, _⟩ := os_row O hy hu (get_lt hl)
 have ro := R.row k _ l hr hl
 obtain ⟨A', c', e, _⟩ := own_form ro
 simp only [Value.slice.injEq] at e
 obtain ⟨-, rfl, -⟩ := e
 obtain ⟨gr, x', rfl, hx, c3, f3, l3, b3, _, oth⟩ := os_byte O hy hu hr ha
 have hx2 : l[a]? = some (l.getD a 0) := by rw [List.getElem?_eq_getElem ha, List.getD_eq_getElem?_getD, List.getElem?_eq_getElem ha]; rfl
 obtain ⟨gr', e', h1, _, _⟩ := own_cell2 ro (bv_get hx2)
 injection e' with e'
 injection e' with e'
 subst e'
 exact ⟨g, gt, gr, cy, cr, u, rfl, rfl, c1, l1, c2, l2, h1, f3, l3, b3, hu, hr, ro, oth⟩
theorem OO.u8 {B B' : Nat} {W : World} {g n cap i : Nat} {x v : Value} {xs : List Value} {os : List Ob} (h : OO B' W v os) (ht : W.ownsRow B 5 1 (.slice (some ⟨g, 0, none⟩) n cap) n xs) : OO B' (W.setCell ⟨g, i, none⟩ x) v os :=
 own_same h fun g' cs _ hh => (blk_set_other hh (fun e => own_ne ht hh ne_u8_ob (by rw [e]; rfl)) _ _).trans hh.symm
theorem ri_own {B : Nat} {w : World} {A : Option Addr} {c : Nat} {l : List Int} (h : w.ownsRow B 3 1 (.slice A l.length c) l.length (ivI l)) : RI B w A l := Hd.of_own h
end Go.Proofs.Ytapehckcmmompaa
