/- Several texts in one. -/
import Derived.Test.YtapehckcmmompaaM14
namespace Go.Proofs.Ytapehckcmmompaa
open Go.ChangeShapes Go.WideShapes Go.ChangeAt Go.RowKit
set_option linter.unusedVariables false
set_option maxRecDepth 100000
attribute [local go_sem ↓] Go.wp_at_zero Go.wp_at_succ
def scrN (d p : Int) (ds : List Dk) (n : Nat) : List Nat := (List.range n).filter fun k => !decide (resE d p (strp ds k) = 0)
theorem scrN_good {d p : Int} {ds : List Dk} {n : Nat} (h : resE d p (strp ds n) = 0) : scrN d p ds (n + 1) = scrN d p ds n := by
 unfold scrN; rw [List.range_succ, List.filter_append]; simp [h]
theorem scrN_wrong {d p : Int} {ds : List Dk} {n : Nat} (h : resE d p (strp ds n) ≠ 0) : scrN d p ds (n + 1) = scrN d p ds n ++ [n] := by
 unfold scrN; rw [List.range_succ, List.filter_append]; simp [h]
theorem scrL_eq (d p : Int) (ds : List Dk) (n : Nat) : scrL d p ds n = (scrN d p ds n).map fun (k : Nat) => (k : Int) := rfl
theorem ivI_nat (l : List Nat) : ivI (l.map fun (k : Nat) => (k : Int)) = iv l := by simp [ivI, iv, Function.comp_def]
theorem scrE_bad {d p : Int} {ds : List Dk} {os : List Ob} (h : chS d p ds os ≠ 0) : scrE d p ds os = chS d p ds os := if_neg h
theorem scrE_ok {d p : Int} {ds : List Dk} {os : List Ob} (h : chS d p ds os = 0) : scrE d p ds os = if 0 < strN os ∧ p < (faN ds : Int) then 32 else 0 := if_pos h
theorem scrR_bad {d p : Int} {ds : List Dk} {os : List Ob} {er : Int} (h : scrE d p ds os = er) (h0 : er ≠ 0) : scrR d p ds os = [] := by unfold scrR; rw [h]; exact if_neg h0
def ScPost (w : World) (l : List Int) (er : Int) (e : Ending) (w' : World) : Prop := ∃ v, e = .returned (.tuple #[v, .int .i64 er]) ∧ w'.ownsRow w.heap.size 3 1 v l.length (ivI l) ∧ Below w.heap.size w w'
set_option maxHeartbeats 16000000 in
theorem scrub_calls (d p : Int) (D A : Option Addr) (cd ca B : Nat) (ds : List Dk) (os : List Ob) (w : World) (hnd : ds.length ≤ cd) (hcd : cd ≤ 9223372036854775807) (hna : os.length ≤ ca) (hca : ca ≤ 9223372036854775807) (hd : RD B w D ds) (hs : RO B w A os) (hl : ∀ o ∈ os, Lh o.name) :
  Calls Try.prog 33 #[Tv d p (.slice D ds.length cd) (.slice A os.length ca)] w (ScPost w (scrR d p ds os) (scrE d p ds os)) := by
 have HD := Lib.hid hd
 have HS := Lib.hid hs
 have HL := Lib.hid hl
 clear hd hs hl
 by_cases ck : chS d p ds os = 0
 rotate_left
 ·have E := scrE_bad (p := p) ck
  rw [scrR_bad E ck, E]
  clear E
  go_enter Try.func33, Try.ntmps33
  go_upto_region 1 with fail
  have SB : Hid ((w.alloc (.cells #[.int .i64 d, .int .i64 p, .slice D ds.length cd, .slice A os.length ca] 25)).heap[w.heap.size]? = some (.cells #[.int .i64 d, .int .i64 p, .slice D ds.length cd, .slice A os.length ca] 25)) := Lib.hid (blk_new w _)
  have NN : Hid (Below w.heap.size w (w.alloc (.cells #[.int .i64 d, .int .i64 p, .slice D ds.length cd, .slice A os.length ca] 25))) := Lib.hid (Bal (Below.refl _ _) _)
  generalize (w.alloc (.cells #[.int .i64 d, .int .i64 p, .slice D ds.length cd, .slice A os.length ca] 25)) = W0 at *
  have s0 := blk_cell SB.out 0 _ rfl
  have s1 := blk_cell SB.out 1 _ rfl
  have s2 := blk_cell SB.out 2 _ rfl
  have s3 := blk_cell SB.out 3 _ rfl
  have ls := blk_lt SB.out
  go_wp2_with fail
  clear s0 s1 s2 s3 ls
  refine (open_bad d p D A cd ca B ds os _ hnd hcd hna hca (HD.out.next NN.out) (HS.out.next NN.out) HL.out ck).mono ?_
  rintro e w1 ⟨v, u, rfl, ht, hu, hb⟩
  obtain ⟨Av, cv, rfl, hv1, hv2⟩ := ht.form
  obtain ⟨Au, cu, rfl, hu1, hu2⟩ := hu.form
  replace SB := Lib.hid (blk_next hb SB.out)
  replace NN := Lib.hid (Bgo NN.out hb)
  clear hb
  have ck2 : (chS d p ds os != 0) = true := by rw [bne_iff_ne]; exact ck
  go_upto_region 2 with fail
  have B9 : Below w1.heap.size w1 (w1.alloc (.cells #[.int .i64 noS.1, .int .i64 noS.2.1, .slice Av noS.2.2.1.length cv, .slice Au noS.2.2.2.length cu, .int .i64 0, .int .i64 0] 79)) := Bal (Below.refl _ _) _
  replace SB := Lib.hid (blk_next B9 SB.out)
  replace NN := Lib.hid (Bgo NN.out B9)
  clear B9 ht hu
  generalize (w1.alloc (.cells #[.int .i64 noS.1, .int .i64 noS.2.1, .slice Av noS.2.2.1.length cv, .slice Au noS.2.2.2.length cu, .int .i64 0, .int .i64 0] 79)) = W1 at *
  go_wp2_with fail
  exact bodyPost_ret (v := .tuple #[.slice none 0 0, .int .i64 (chS d p ds os)]) (by simp [results, Try.results33, go_sem]) rfl ⟨_, rfl, World.ownsRow_nil _ _ _ _, NN.out⟩
 have E := scrE_ok ck
 have OK := Lib.hid (chS_ok ck)
 by_cases h1 : 0 < strN os ∧ p < (faN ds : Int)
 ·rw [if_pos h1] at E
  rw [scrR_bad E (by decide), E]
  have t1 : decide (0 < strN os) = true := decide_eq_true h1.1
  have t2 : decide (p < (faN ds : Int)) = true := decide_eq_true h1.2
  clear E h1
  go_enter Try.func33, Try.ntmps33
  go_upto_region 1 with fail
  have SB : Hid ((w.alloc (.cells #[.int .i64 d, .int .i64 p, .slice D ds.length cd, .slice A os.length ca] 25)).heap[w.heap.size]? = some (.cells #[.int .i64 d, .int .i64 p, .slice D ds.length cd, .slice A os.length ca] 25)) := Lib.hid (blk_new w _)
  have NN : Hid (Below w.heap.size w (w.alloc (.cells #[.int .i64 d, .int .i64 p, .slice D ds.length cd, .slice A os.length ca] 25))) := Lib.hid (Bal (Below.refl _ _) _)
  generalize (w.alloc (.cells #[.int .i64 d, .int .i64 p, .slice D ds.length cd, .slice A os.length ca] 25)) = W0 at *
  have s0 := blk_cell SB.out 0 _ rfl
  have s1 := blk_cell SB.out 1 _ rfl
  have s2 := blk_cell SB.out 2 _ rfl
  have s3 := blk_cell SB.out 3 _ rfl
  have ls := blk_lt SB.out
  go_wp2_with fail
  clear s0 s1 s2 s3 ls
  refine (open_ok d p D A cd ca B ds os _ hnd hcd hna hca (HD.out.next NN.out) (HS.out.next NN.out) HL.out ck).mono ?_
  rintro e w1 ⟨v, u, rfl, ht, hu, hb⟩
  have T := Lib.hid (ht.mono NN.out.size)
  have U := Lib.hid (hu.mono NN.out.size)
  clear ht hu
  simp only at T U
  obtain ⟨Av, cv, rfl, hv1, hv2⟩ := T.out.form
  obtain ⟨Au, cu, rfl, hu1, hu2⟩ := U.out.form
  replace SB := Lib.hid (blk_next hb SB.out)
  replace NN := Lib.hid (Bgo NN.out hb)
  clear hb
  go_upto_region 2 with fail
  have HB : Hid ((w1.alloc (.cells #[.int .i64 d, .int .i64 p, .slice Av ds.length cv, .slice Au os.length cu, .int .i64 (strN os), .int .i64 (faN ds)] 79)).heap[w1.heap.size]? = some (.cells #[.int .i64 d, .int .i64 p, .slice Av ds.length cv, .slice Au os.length cu, .int .i64 (strN os), .int .i64 (faN ds)] 79)) := Lib.hid (blk_new _ _)
  have B9 : Below w1.heap.size w1 (w1.alloc (.cells #[.int .i64 d, .int .i64 p, .slice Av ds.length cv, .slice Au os.length cu, .int .i64 (strN os), .int .i64 (faN ds)] 79)) := Bal (Below.refl _ _) _
  have LX : w.heap.size < w1.heap.size := blk_lt SB.out
  replace SB := Lib.hid (blk_next B9 SB.out)
  replace NN := Lib.hid (Bgo NN.out B9)
  replace T := Lib.hid (T.out.next B9)
  replace U := Lib.hid (U.out.next B9)
  clear B9
  generalize (w1.alloc (.cells #[.int .i64 d, .int .i64 p, .slice Av ds.length cv, .slice Au os.length cu, .int .i64 (strN os), .int .i64 (faN ds)] 79)) = W1 at *
  generalize w1.heap.size = gh at *
  have h0 := blk_cell HB.out 0 _ rfl
  have h1 := blk_cell HB.out 1 _ rfl
  have h2 := blk_cell HB.out 2 _ rfl
  have h3 := blk_cell HB.out 3 _ rfl
  have h4 := blk_cell HB.out 4 _ rfl
  have h5 := blk_cell HB.out 5 _ rfl
  have lh := blk_lt HB.out
  go_wp2_with fail
  exact bodyPost_ret (v := .tuple #[.slice none 0 0, .int .i64 (32)]) (by simp [results, Try.results33, go_sem]) rfl ⟨_, rfl, World.ownsRow_nil _ _ _ _, NN.out⟩
 rw [if_neg h1] at E
 have R : scrR d p ds os = scrL d p ds (strN os).toNat := by unfold scrR; rw [E]; rfl
 rw [R, E, scrL_eq]
 clear E R
 obtain ⟨st, hst⟩ : ∃ st : Nat, strN os = (st : Int) := ⟨(strN os).toNat, by have := OK.out.str; omega⟩
 have st9 : st ≤ 640 := by have := OK.out.str; omega
 rw [hst, Int.toNat_natCast]
 have HST := Lib.hid hst
 have n20 : ds.length ≤ 12 := by have := OK.out.len; have := OK.out.d8; have := OK.out.p4; omega
 have n16 := OK.out.n16
 by_cases h2 : 0 < strN os
 ·have t1 : decide (0 < strN os) = true := decide_eq_true h2
  have t2 : decide (p < (faN ds : Int)) = false := decide_eq_false (fun h => h1 ⟨h2, h⟩)
  clear h1 h2
  clear hst
  go_enter Try.func33, Try.ntmps33
  go_upto_region 1 with fail
  have SB : Hid ((w.alloc (.cells #[.int .i64 d, .int .i64 p, .slice D ds.length cd, .slice A os.length ca] 25)).heap[w.heap.size]? = some (.cells #[.int .i64 d, .int .i64 p, .slice D ds.length cd, .slice A os.length ca] 25)) := Lib.hid (blk_new w _)
  have NN : Hid (Below w.heap.size w (w.alloc (.cells #[.int .i64 d, .int .i64 p, .slice D ds.length cd, .slice A os.length ca] 25))) := Lib.hid (Bal (Below.refl _ _) _)
  generalize (w.alloc (.cells #[.int .i64 d, .int .i64 p, .slice D ds.length cd, .slice A os.length ca] 25)) = W0 at *
  have s0 := blk_cell SB.out 0 _ rfl
  have s1 := blk_cell SB.out 1 _ rfl
  have s2 := blk_cell SB.out 2 _ rfl
  have s3 := blk_cell SB.out 3 _ rfl
  have ls := blk_lt SB.out
  go_wp2_with fail
  clear s0 s1 s2 s3 ls
  refine (open_ok d p D A cd ca B ds os _ hnd hcd hna hca (HD.out.next NN.out) (HS.out.next NN.out) HL.out ck).mono ?_
  rintro e w1 ⟨v, u, rfl, ht, hu, hb⟩
  have T := Lib.hid (ht.mono NN.out.size)
  have U := Lib.hid (hu.mono NN.out.size)
  clear ht hu
  simp only at T U
  obtain ⟨Av, cv, rfl, hv1, hv2⟩ := T.out.form
  obtain ⟨Au, cu, rfl, hu1, hu2⟩ := U.out.form
  replace SB := Lib.hid (blk_next hb SB.out)
  replace NN := Lib.hid (Bgo NN.out hb)
  clear hb
  go_upto_region 2 with fail
  have HB : Hid ((w1.alloc (.cells #[.int .i64 d, .int .i64 p, .slice Av ds.length cv, .slice Au os.length cu, .int .i64 (strN os), .int .i64 (faN ds)] 79)).heap[w1.heap.size]? = some (.cells #[.int .i64 d, .int .i64 p, .slice Av ds.length cv, .slice Au os.length cu, .int .i64 (strN os), .int .i64 (faN ds)] 79)) := Lib.hid (blk_new _ _)
  have B9 : Below w1.heap.size w1 (w1.alloc (.cells #[.int .i64 d, .int .i64 p, .slice Av ds.length cv, .slice Au os.length cu, .int .i64 (strN os), .int .i64 (faN ds)] 79)) := Bal (Below.refl _ _) _
  have LX : w.heap.size < w1.heap.size := blk_lt SB.out
  replace SB := Lib.hid (blk_next B9 SB.out)
  replace NN := Lib.hid (Bgo NN.out B9)
  replace T := Lib.hid (T.out.next B9)
  replace U := Lib.hid (U.out.next B9)
  clear B9
  generalize (w1.alloc (.cells #[.int .i64 d, .int .i64 p, .slice Av ds.length cv, .slice Au os.length cu, .int .i64 (strN os), .int .i64 (faN ds)] 79)) = W1 at *
  generalize w1.heap.size = gh at *
  have h0 := blk_cell HB.out 0 _ rfl
  have h1 := blk_cell HB.out 1 _ rfl
  have h2 := blk_cell HB.out 2 _ rfl
  have h3 := blk_cell HB.out 3 _ rfl
  have h4 := blk_cell HB.out 4 _ rfl
  have h5 := blk_cell HB.out 5 _ rfl
  have lh := blk_lt HB.out
  go_wp2_with fail
  clear h0 h1 h2 h3 h4 h5 lh
  have LW1 : w.heap.size ≤ W1.heap.size := NN.out.size
  go_loopw [6, 31] (fun v i wr => ∃ (k tt : Nat), k ≤ st ∧ tt ≤ k ∧ i = .int .i64 k ∧ Hid ((scrN d p ds k).length = tt) ∧ Hid (Below W1.heap.size W1 wr) ∧ Hid (wr.ownsRow W1.heap.size 3 1 v tt (iv (scrN d p ds k)))) (fun _ i _ => st - (intOf i).toNat)
  case atStart => exact ⟨0, 0, by omega, by omega, rfl, Lib.hid rfl, Lib.hid (Below.refl _ _), Lib.hid (World.ownsRow_nil _ _ _ _)⟩
  case round =>
   obtain ⟨k, tt, hk, htt, rfl, RL, NI, OX⟩ := hrel
   obtain ⟨wo, rfl⟩ : ∃ wo : World, wo = wr := ⟨_, rfl⟩
   have X1 := Lib.hid (blk_next NI.out HB.out)
   have NX := Lib.hid (Bgo NN.out NI.out)
   obtain ⟨Ax, cx, hxe, hx1, hx2, -⟩ := own_form OX.out
   subst hxe
   have h0 := blk_cell X1.out 0 _ rfl
   have h1 := blk_cell X1.out 1 _ rfl
   have h2 := blk_cell X1.out 2 _ rfl
   have h3 := blk_cell X1.out 3 _ rfl
   have h4 := blk_cell X1.out 4 _ rfl
   have h5 := blk_cell X1.out 5 _ rfl
   have lh := blk_lt X1.out
   by_cases hlt : k < st
   rotate_left
   ·obtain rfl : k = st := by omega
    have k9 : decide (((k : Nat) : Int) < strN os) = false := decide_eq_false (by rw [HST.out]; omega)
    have TL := RL.out
    have O2 := OX.out
    clear RL
    go_wp2_with fail
    exact bodyPost_ret (v := .tuple #[.slice Ax tt cx, .int .i64 (0)]) (by simp [results, Try.results33, go_sem]) rfl ⟨_, rfl, by rw [ivI_nat, List.length_map, TL]; exact own_mono O2 LW1, NX.out⟩
   have k1 : (0 : Int) ≤ (k : Int) := by omega
   have k2 : (k : Int) < strN os := by rw [HST.out]; omega
   have fk : (k : Int) < strN os := by rw [HST.out]; omega
   have HKB : Hid (∀ x ∈ ds, x.failed = false → k < x.blocks.length) := Lib.hid (fun x hx hf => by have := ((OK.out.dkl hx).2 hf).1; omega)
   clear fk
   have SC := Lib.hid (fun (W : World) (h : Below wo.heap.size wo W) => stripe_calls d p Av Au cv os.length cu w.heap.size (strN os) (faN ds : Int) ds k W hv1 hv2 ((T.out.rd.next NI.out).next h) (by omega) HKB.out)
   have RC := Lib.hid (fun A5 c5 W h1 h2 h3 => restore_calls d p A5 c5 0 (strp ds k) W h1 h2 h3)
   by_cases hr : resE d p (strp ds k) = 0
   rotate_left
   ·have hr2 : (resE d p (strp ds k) != 0) = true := by rw [bne_iff_ne]; exact hr
    have GS := Lib.hid (scrN_wrong hr)
    generalize resE d p (strp ds k) = er at *
    go_wp2_with fail
    clear h0 h1 h2 h3 h4 h5 lh
    refine (SC.out _ (Below.refl _ _)).mono ?_
    rintro e w5 ⟨v5, rfl, hm5, hb5⟩
    obtain ⟨A5, c5, rfl, h51, h52, h53⟩ := hm5
    go_wp2_with fail
    refine (RC.out A5 c5 _ h51 h52 h53).mono ?_
    rintro e w6 ⟨v6, rfl, hm6, hb6⟩
    obtain ⟨us6, hm6⟩ := hm6
    obtain ⟨A6, c6, rfl, h61, h62, _⟩ := own_form hm6.top
    clear hm6 h51 h52 h53 SC RC h61 h62
    generalize (resS d p (strp ds k)).1 = D6 at *
    generalize (resS d p (strp ds k)).2.1 = M6 at *
    generalize (resS d p (strp ds k)).2.2.length = n6 at *
    go_upto_region 11 with fail
    have N6 : Hid (Below wo.heap.size wo (w6.alloc (.cells #[.int .i64 D6, .int .i64 M6, .slice A6 n6 c6] 54))) := Lib.hid (Bal (Bgo hb5 hb6) _)
    clear hb5 hb6
    generalize (w6.alloc (.cells #[.int .i64 D6, .int .i64 M6, .slice A6 n6 c6] 54)) = W6 at *
    generalize w6.heap.size = gp at *
    have NI6 := Lib.hid (Bgo NI.out N6.out)
    have OX6 := Lib.hid (own_next N6.out OX.out)
    have SZ : W1.heap.size ≤ W6.heap.size := by have := NI6.out.size; omega
    obtain ⟨i0, hi0, hz0, hz1, hz2⟩ := info_parts int_info
    have HI := Lib.hid (And.intro hi0 (And.intro hz0 (And.intro hz1 hz2)))
    clear hi0 hz0 hz1 hz2
    generalize scrN d p ds k = L at *
    go_wp2_with (at_builtin; refine wpList_append_rd _ rfl _ _ 59 rfl W1.heap.size 3 i0 (.int .i64 0) 1 8 Try.underlying59 HI.out.1 HI.out.2.1 HI.out.2.2.1 HI.out.2.2.2 rfl (by decide) _ tt (iv L) rfl (OX6.out.alloc _) (some ⟨W6.heap.size, 0, none⟩) 1 1 [.int .i64 (k : Int)] rfl (rd_one (t := 3) (blk_new _ _)) (int_one _ _) (by simp only [maxLen]; omega) (by omega) (by first | exact SZ | (simp; omega)) ?_; intro v1 w8 hown1 hg1 hat1; have O1 := Lib.hid hown1; have N1 : Hid (Below W1.heap.size W1 w8) := Lib.hid (gbel hg1 (Bal NI6.out _) (fun g hg => (OX6.out.lt g hg).1)); clear hown1 hg1 hat1)
    refine ⟨⟨k + 1, tt + 1, by omega, by omega, by go_num, Lib.hid ?_, N1, Lib.hid ?_⟩, by simp [intOf]; omega⟩
    ·rw [GS.out, List.length_append, RL.out]; rfl
    ·rw [GS.out, iv_append]; exact O1.out
   have hr2 : (resE d p (strp ds k) != 0) = false := by rw [bne_eq_false_iff_eq]; exact hr
   have GS := Lib.hid (scrN_good hr)
   rw [hr] at RC
   go_wp2_with fail
   clear h0 h1 h2 h3 h4 h5 lh
   refine (SC.out _ (Below.refl _ _)).mono ?_
   rintro e w5 ⟨v5, rfl, hm5, hb5⟩
   obtain ⟨A5, c5, rfl, h51, h52, h53⟩ := hm5
   go_wp2_with fail
   refine (RC.out A5 c5 _ h51 h52 h53).mono ?_
   rintro e w6 ⟨v6, rfl, hm6, hb6⟩
   obtain ⟨us6, hm6⟩ := hm6
   obtain ⟨A6, c6, rfl, h61, h62, _⟩ := own_form hm6.top
   clear hm6 h51 h52 h53 SC RC h61 h62
   generalize (resS d p (strp ds k)).1 = D6 at *
   generalize (resS d p (strp ds k)).2.1 = M6 at *
   generalize (resS d p (strp ds k)).2.2.length = n6 at *
   go_upto_region 11 with fail
   have N6 : Hid (Below wo.heap.size wo (w6.alloc (.cells #[.int .i64 D6, .int .i64 M6, .slice A6 n6 c6] 54))) := Lib.hid (Bal (Bgo hb5 hb6) _)
   clear hb5 hb6
   generalize (w6.alloc (.cells #[.int .i64 D6, .int .i64 M6, .slice A6 n6 c6] 54)) = W6 at *
   generalize w6.heap.size = gp at *
   have NI6 := Lib.hid (Bgo NI.out N6.out)
   have OX6 := Lib.hid (own_next N6.out OX.out)
   go_wp2_with fail
   refine ⟨⟨k + 1, tt, by omega, by omega, by go_num, Lib.hid (by rw [GS.out, RL.out]), NI6, Lib.hid (by rw [GS.out]; exact OX6.out)⟩, by simp [intOf]; omega⟩
 have t1 : decide (0 < strN os) = false := decide_eq_false h2
 clear h1 h2
 clear hst
 go_enter Try.func33, Try.ntmps33
 go_upto_region 1 with fail
 have SB : Hid ((w.alloc (.cells #[.int .i64 d, .int .i64 p, .slice D ds.length cd, .slice A os.length ca] 25)).heap[w.heap.size]? = some (.cells #[.int .i64 d, .int .i64 p, .slice D ds.length cd, .slice A os.length ca] 25)) := Lib.hid (blk_new w _)
 have NN : Hid (Below w.heap.size w (w.alloc (.cells #[.int .i64 d, .int .i64 p, .slice D ds.length cd, .slice A os.length ca] 25))) := Lib.hid (Bal (Below.refl _ _) _)
 generalize (w.alloc (.cells #[.int .i64 d, .int .i64 p, .slice D ds.length cd, .slice A os.length ca] 25)) = W0 at *
 have s0 := blk_cell SB.out 0 _ rfl
 have s1 := blk_cell SB.out 1 _ rfl
 have s2 := blk_cell SB.out 2 _ rfl
 have s3 := blk_cell SB.out 3 _ rfl
 have ls := blk_lt SB.out
 go_wp2_with fail
 clear s0 s1 s2 s3 ls
 refine (open_ok d p D A cd ca B ds os _ hnd hcd hna hca (HD.out.next NN.out) (HS.out.next NN.out) HL.out ck).mono ?_
 rintro e w1 ⟨v, u, rfl, ht, hu, hb⟩
 have T := Lib.hid (ht.mono NN.out.size)
 have U := Lib.hid (hu.mono NN.out.size)
 clear ht hu
 simp only at T U
 obtain ⟨Av, cv, rfl, hv1, hv2⟩ := T.out.form
 obtain ⟨Au, cu, rfl, hu1, hu2⟩ := U.out.form
 replace SB := Lib.hid (blk_next hb SB.out)
 replace NN := Lib.hid (Bgo NN.out hb)
 clear hb
 go_upto_region 2 with fail
 have HB : Hid ((w1.alloc (.cells #[.int .i64 d, .int .i64 p, .slice Av ds.length cv, .slice Au os.length cu, .int .i64 (strN os), .int .i64 (faN ds)] 79)).heap[w1.heap.size]? = some (.cells #[.int .i64 d, .int .i64 p, .slice Av ds.length cv, .slice Au os.length cu, .int .i64 (strN os), .int .i64 (faN ds)] 79)) := Lib.hid (blk_new _ _)
 have B9 : Below w1.heap.size w1 (w1.alloc (.cells #[.int .i64 d, .int .i64 p, .slice Av ds.length cv, .slice Au os.length cu, .int .i64 (strN os), .int .i64 (faN ds)] 79)) := Bal (Below.refl _ _) _
 have LX : w.heap.size < w1.heap.size := blk_lt SB.out
 replace SB := Lib.hid (blk_next B9 SB.out)
 replace NN := Lib.hid (Bgo NN.out B9)
 replace T := Lib.hid (T.out.next B9)
 replace U := Lib.hid (U.out.next B9)
 clear B9
 generalize (w1.alloc (.cells #[.int .i64 d, .int .i64 p, .slice Av ds.length cv, .slice Au os.length cu, .int .i64 (strN os), .int .i64 (faN ds)] 79)) = W1 at *
 generalize w1.heap.size = gh at *
 have h0 := blk_cell HB.out 0 _ rfl
 have h1 := blk_cell HB.out 1 _ rfl
 have h2 := blk_cell HB.out 2 _ rfl
 have h3 := blk_cell HB.out 3 _ rfl
 have h4 := blk_cell HB.out 4 _ rfl
 have h5 := blk_cell HB.out 5 _ rfl
 have lh := blk_lt HB.out
 go_wp2_with fail
 clear h0 h1 h2 h3 h4 h5 lh
 have LW1 : w.heap.size ≤ W1.heap.size := NN.out.size
 go_loopw [6, 31] (fun v i wr => ∃ (k tt : Nat), k ≤ st ∧ tt ≤ k ∧ i = .int .i64 k ∧ Hid ((scrN d p ds k).length = tt) ∧ Hid (Below W1.heap.size W1 wr) ∧ Hid (wr.ownsRow W1.heap.size 3 1 v tt (iv (scrN d p ds k)))) (fun _ i _ => st - (intOf i).toNat)
 case atStart => exact ⟨0, 0, by omega, by omega, rfl, Lib.hid rfl, Lib.hid (Below.refl _ _), Lib.hid (World.ownsRow_nil _ _ _ _)⟩
 case round =>
  obtain ⟨k, tt, hk, htt, rfl, RL, NI, OX⟩ := hrel
  obtain ⟨wo, rfl⟩ : ∃ wo : World, wo = wr := ⟨_, rfl⟩
  have X1 := Lib.hid (blk_next NI.out HB.out)
  have NX := Lib.hid (Bgo NN.out NI.out)
  obtain ⟨Ax, cx, hxe, hx1, hx2, -⟩ := own_form OX.out
  subst hxe
  have h0 := blk_cell X1.out 0 _ rfl
  have h1 := blk_cell X1.out 1 _ rfl
  have h2 := blk_cell X1.out 2 _ rfl
  have h3 := blk_cell X1.out 3 _ rfl
  have h4 := blk_cell X1.out 4 _ rfl
  have h5 := blk_cell X1.out 5 _ rfl
  have lh := blk_lt X1.out
  by_cases hlt : k < st
  rotate_left
  ·obtain rfl : k = st := by omega
   have k9 : decide (((k : Nat) : Int) < strN os) = false := decide_eq_false (by rw [HST.out]; omega)
   have TL := RL.out
   have O2 := OX.out
   clear RL
   go_wp2_with fail
   exact bodyPost_ret (v := .tuple #[.slice Ax tt cx, .int .i64 (0)]) (by simp [results, Try.results33, go_sem]) rfl ⟨_, rfl, by rw [ivI_nat, List.length_map, TL]; exact own_mono O2 LW1, NX.out⟩
  have k1 : (0 : Int) ≤ (k : Int) := by omega
  have k2 : (k : Int) < strN os := by rw [HST.out]; omega
  have fk : (k : Int) < strN os := by rw [HST.out]; omega
  have HKB : Hid (∀ x ∈ ds, x.failed = false → k < x.blocks.length) := Lib.hid (fun x hx hf => by have := ((OK.out.dkl hx).2 hf).1; omega)
  clear fk
  have SC := Lib.hid (fun (W : World) (h : Below wo.heap.size wo W) => stripe_calls d p Av Au cv os.length cu w.heap.size (strN os) (faN ds : Int) ds k W hv1 hv2 ((T.out.rd.next NI.out).next h) (by omega) HKB.out)
  have RC := Lib.hid (fun A5 c5 W h1 h2 h3 => restore_calls d p A5 c5 0 (strp ds k) W h1 h2 h3)
  by_cases hr : resE d p (strp ds k) = 0
  rotate_left
  ·have hr2 : (resE d p (strp ds k) != 0) = true := by rw [bne_iff_ne]; exact hr
   have GS := Lib.hid (scrN_wrong hr)
   generalize resE d p (strp ds k) = er at *
   go_wp2_with fail
   clear h0 h1 h2 h3 h4 h5 lh
   refine (SC.out _ (Below.refl _ _)).mono ?_
   rintro e w5 ⟨v5, rfl, hm5, hb5⟩
   obtain ⟨A5, c5, rfl, h51, h52, h53⟩ := hm5
   go_wp2_with fail
   refine (RC.out A5 c5 _ h51 h52 h53).mono ?_
   rintro e w6 ⟨v6, rfl, hm6, hb6⟩
   obtain ⟨us6, hm6⟩ := hm6
   obtain ⟨A6, c6, rfl, h61, h62, _⟩ := own_form hm6.top
   clear hm6 h51 h52 h53 SC RC h61 h62
   generalize (resS d p (strp ds k)).1 = D6 at *
   generalize (resS d p (strp ds k)).2.1 = M6 at *
   generalize (resS d p (strp ds k)).2.2.length = n6 at *
   go_upto_region 11 with fail
   have N6 : Hid (Below wo.heap.size wo (w6.alloc (.cells #[.int .i64 D6, .int .i64 M6, .slice A6 n6 c6] 54))) := Lib.hid (Bal (Bgo hb5 hb6) _)
   clear hb5 hb6
   generalize (w6.alloc (.cells #[.int .i64 D6, .int .i64 M6, .slice A6 n6 c6] 54)) = W6 at *
   generalize w6.heap.size = gp at *
   have NI6 := Lib.hid (Bgo NI.out N6.out)
   have OX6 := Lib.hid (own_next N6.out OX.out)
   have SZ : W1.heap.size ≤ W6.heap.size := by have := NI6.out.size; omega
   obtain ⟨i0, hi0, hz0, hz1, hz2⟩ := info_parts int_info
   have HI := Lib.hid (And.intro hi0 (And.intro hz0 (And.intro hz1 hz2)))
   clear hi0 hz0 hz1 hz2
   generalize scrN d p ds k = L at *
   go_wp2_with (at_builtin; refine wpList_append_rd _ rfl _ _ 59 rfl W1.heap.size 3 i0 (.int .i64 0) 1 8 Try.underlying59 HI.out.1 HI.out.2.1 HI.out.2.2.1 HI.out.2.2.2 rfl (by decide) _ tt (iv L) rfl (OX6.out.alloc _) (some ⟨W6.heap.size, 0, none⟩) 1 1 [.int .i64 (k : Int)] rfl (rd_one (t := 3) (blk_new _ _)) (int_one _ _) (by simp only [maxLen]; omega) (by omega) (by first | exact SZ | (simp; omega)) ?_; intro v1 w8 hown1 hg1 hat1; have O1 := Lib.hid hown1; have N1 : Hid (Below W1.heap.size W1 w8) := Lib.hid (gbel hg1 (Bal NI6.out _) (fun g hg => (OX6.out.lt g hg).1)); clear hown1 hg1 hat1)
   refine ⟨⟨k + 1, tt + 1, by omega, by omega, by go_num, Lib.hid ?_, N1, Lib.hid ?_⟩, by simp [intOf]; omega⟩
   ·rw [GS.out, List.length_append, RL.out]; rfl
   ·rw [GS.out, iv_append]; exact O1.out
  have hr2 : (resE d p (strp ds k) != 0) = false := by rw [bne_eq_false_iff_eq]; exact hr
  have GS := Lib.hid (scrN_good hr)
  rw [hr] at RC
  go_wp2_with fail
  clear h0 h1 h2 h3 h4 h5 lh
  refine (SC.out _ (Below.refl _ _)).mono ?_
  rintro e w5 ⟨v5, rfl, hm5, hb5⟩
  obtain ⟨A5, c5, rfl, h51, h52, h53⟩ := hm5
  go_wp2_with fail
  refine (RC.out A5 c5 _ h51 h52 h53).mono ?_
  rintro e w6 ⟨v6, rfl, hm6, hb6⟩
  obtain ⟨us6, hm6⟩ := hm6
  obtain ⟨A6, c6, rfl, h61, h62, _⟩ := own_form hm6.top
  clear hm6 h51 h52 h53 SC RC h61 h62
  generalize (resS d p (strp ds k)).1 = D6 at *
  generalize (resS d p (strp ds k)).2.1 = M6 at *
  generalize (resS d p (strp ds k)).2.2.length = n6 at *
  go_upto_region 11 with fail
  have N6 : Hid (Below wo.heap.size wo (w6.alloc (.cells #[.int .i64 D6, .int .i64 M6, .slice A6 n6 c6] 54))) := Lib.hid (Bal (Bgo hb5 hb6) _)
  clear hb5 hb6
  generalize (w6.alloc (.cells #[.int .i64 D6, .int .i64 M6, .slice A6 n6 c6] 54)) = W6 at *
  generalize w6.heap.size = gp at *
  have NI6 := Lib.hid (Bgo NI.out N6.out)
  have OX6 := Lib.hid (own_next N6.out OX.out)
  go_wp2_with fail
  refine ⟨⟨k + 1, tt, by omega, by omega, by go_num, Lib.hid (by rw [GS.out, RL.out]), NI6, Lib.hid (by rw [GS.out]; exact OX6.out)⟩, by simp [intOf]; omega⟩
end Go.Proofs.Ytapehckcmmompaa
