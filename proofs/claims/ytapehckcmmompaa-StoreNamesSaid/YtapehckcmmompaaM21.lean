/- Several texts in one. -/
import Derived.Test.YtapehckcmmompaaM14
import Derived.Test.YtapehckcmmompaaM20
namespace Go.Proofs.Ytapehckcmmompaa
open Go.ChangeShapes Go.WideShapes Go.ChangeAt Go.RowKit
set_option linter.unusedVariables false
set_option maxRecDepth 100000
attribute [local go_sem ↓] Go.wp_at_zero Go.wp_at_succ
def GPost (w : World) (r : List Nat × Int) (e : Ending) (w' : World) : Prop := ∃ v, e = .returned (.tuple #[v, .int .i64 r.2]) ∧ RB 0 w' v r.1 ∧ Below w.heap.size w w'
theorem getR_bad {d p : Int} {ds : List Dk} {os : List Ob} {nm : ByteArray} (h : chS d p ds os ≠ 0) : getR d p ds os nm = ([], chS d p ds os) := if_neg h
theorem getR_none {d p : Int} {ds : List Dk} {os : List Ob} {nm : ByteArray} (h : chS d p ds os = 0) (hx : findL os nm.toList < 0) : getR d p ds os nm = ([], 6) := by
 unfold getR
 rw [if_pos h, decide_eq_false (show ¬ 0 ≤ findL os nm.toList by omega)]
 cases os[(findL os nm.toList).toNat]? <;> rfl
theorem getR_at {d p : Int} {ds : List Dk} {os : List Ob} {nm : ByteArray} {i : Nat} {ob : Ob} (h : chS d p ds os = 0) (hx : findL os nm.toList = (i : Int)) (hi : os[i]? = some ob) :
  getR d p ds os nm = if (getTo d p ds ob.from_.toNat ob.many.toNat).2 = 0 then
    if ((digL ((getTo d p ds ob.from_.toNat ob.many.toNat).1.take ob.size.toNat) : Nat) : Int) = ob.dig then ((getTo d p ds ob.from_.toNat ob.many.toNat).1.take ob.size.toNat, 0) else ([], 30)
   else ([], (getTo d p ds ob.from_.toNat ob.many.toNat).2) := by
 unfold getR
 rw [if_pos h, hx, Int.toNat_natCast, hi, decide_eq_true (show (0 : Int) ≤ (i : Int) by omega)]
theorem bv_take (l : List Nat) (n : Nat) : bv (l.take n) = (bv l).take n := by simp [bv, List.map_take]
theorem OB.take_ {B n : Nat} {w : World} {A : Option Addr} {c : Nat} {l : List Nat} (h : OB B w (.slice A l.length c) l) (hb : Byt l) (hn : n ≤ l.length) : RB 0 w (.slice A n c) (l.take n) := by
 obtain ⟨A', c', e, h1, h2, _⟩ := own_form h
 injection e with e1 e2 e3
 subst e1 e3
 refine ⟨A, c, by rw [List.length_take, Nat.min_eq_left hn], by rw [List.length_take]; omega, h2, fun x hx => hb x (List.mem_of_mem_take hx), ?_⟩
 have := (Hd.of_own h).take_ n
 rw [bv_take]; exact this.mono (Nat.zero_le _)
theorem byt_flat {m : List (List Nat)} (h : ∀ l ∈ m, Byt l) : Byt m.flatten := fun x hx => by
 obtain ⟨l, hl, hx⟩ := List.mem_flatten.1 hx
 exact h l hl x hx
set_option maxHeartbeats 16000000 in
theorem get_calls (d p : Int) (D A : Option Addr) (cd ca B : Nat) (ds : List Dk) (os : List Ob) (nm : ByteArray) (w : World) (hnd : ds.length ≤ cd) (hcd : cd ≤ 9223372036854775807) (hna : os.length ≤ ca) (hca : ca ≤ 9223372036854775807) (hd : RD B w D ds) (hs : RO B w A os) (hl : ∀ o ∈ os, Lh o.name) :
  Calls Try.prog 16 #[Tv d p (.slice D ds.length cd) (.slice A os.length ca), .string nm] w (GPost w (getR d p ds os nm)) := by
 have HD := Lib.hid hd
 have HS := Lib.hid hs
 have HL := Lib.hid hl
 clear hd hs hl
 by_cases ck : chS d p ds os = 0
 rotate_left
 ·skip
  rw [getR_bad ck]
  go_enter Try.func16, Try.ntmps16
  go_upto_region 1 with fail
  have SB : Hid ((w.alloc (.cells #[.int .i64 d, .int .i64 p, .slice D ds.length cd, .slice A os.length ca] 25)).heap[w.heap.size]? = some (.cells #[.int .i64 d, .int .i64 p, .slice D ds.length cd, .slice A os.length ca] 25)) := Lib.hid (blk_new w _)
  have NN : Hid (Below w.heap.size w (w.alloc (.cells #[.int .i64 d, .int .i64 p, .slice D ds.length cd, .slice A os.length ca] 25))) := Lib.hid (Bal (Below.refl _ _) _)
  generalize (w.alloc (.cells #[.int .i64 d, .int .i64 p, .slice D ds.length cd, .slice A os.length ca] 25)) = W0 at *
  have s0 := blk_cell SB.out 0 _ rfl
  have s1 := blk_cell SB.out 1 _ rfl
  have s2 := blk_cell SB.out 2 _ rfl
  have s3 := blk_cell SB.out 3 _ rfl
  have ls := blk_lt SB.out
  go_wp2_with fail
  clear s0 s1 s2 s3 ls
  refine (open_bad d p D A cd ca B ds os _ hnd hcd hna hca (HD.out.next NN.out) (HS.out.next NN.out) HL.out ck).mono ?_
  rintro e w1 ⟨v, u, rfl, ht, hu, hb⟩
  obtain ⟨Av, cv, rfl, hv1, hv2⟩ := ht.form
  obtain ⟨Au, cu, rfl, hu1, hu2⟩ := hu.form
  replace SB := Lib.hid (blk_next hb SB.out)
  replace NN := Lib.hid (Bgo NN.out hb)
  clear hb
  have ck2 : (chS d p ds os != 0) = true := by rw [bne_iff_ne]; exact ck
  go_upto_region 2 with fail
  have B9 : Below w1.heap.size w1 (w1.alloc (.cells #[.int .i64 noS.1, .int .i64 noS.2.1, .slice Av noS.2.2.1.length cv, .slice Au noS.2.2.2.length cu, .int .i64 0, .int .i64 0] 79)) := Bal (Below.refl _ _) _
  replace SB := Lib.hid (blk_next B9 SB.out)
  replace NN := Lib.hid (Bgo NN.out B9)
  clear B9 ht hu
  generalize (w1.alloc (.cells #[.int .i64 noS.1, .int .i64 noS.2.1, .slice Av noS.2.2.1.length cv, .slice Au noS.2.2.2.length cu, .int .i64 0, .int .i64 0] 79)) = W1 at *
  go_wp2_with fail
  exact bodyPost_ret (v := .tuple #[.slice none 0 0, .int .i64 (chS d p ds os)]) (by simp [results, Try.results16, go_sem]) rfl ⟨_, rfl, RB.nil _ _, NN.out⟩
 have OK := Lib.hid (chS_ok ck)
 have FN := findL_nn (os := os) (l := nm.toList)
 by_cases q0 : findL os nm.toList < 0
 ·have t0 : decide (findL os nm.toList < 0) = true := decide_eq_true q0
  rw [getR_none ck q0]
  go_enter Try.func16, Try.ntmps16
  go_upto_region 1 with fail
  have SB : Hid ((w.alloc (.cells #[.int .i64 d, .int .i64 p, .slice D ds.length cd, .slice A os.length ca] 25)).heap[w.heap.size]? = some (.cells #[.int .i64 d, .int .i64 p, .slice D ds.length cd, .slice A os.length ca] 25)) := Lib.hid (blk_new w _)
  have NN : Hid (Below w.heap.size w (w.alloc (.cells #[.int .i64 d, .int .i64 p, .slice D ds.length cd, .slice A os.length ca] 25))) := Lib.hid (Bal (Below.refl _ _) _)
  generalize (w.alloc (.cells #[.int .i64 d, .int .i64 p, .slice D ds.length cd, .slice A os.length ca] 25)) = W0 at *
  have s0 := blk_cell SB.out 0 _ rfl
  have s1 := blk_cell SB.out 1 _ rfl
  have s2 := blk_cell SB.out 2 _ rfl
  have s3 := blk_cell SB.out 3 _ rfl
  have ls := blk_lt SB.out
  go_wp2_with fail
  clear s0 s1 s2 s3 ls
  refine (open_ok d p D A cd ca B ds os _ hnd hcd hna hca (HD.out.next NN.out) (HS.out.next NN.out) HL.out ck).mono ?_
  rintro e w1 ⟨v, u, rfl, ht, hu, hb⟩
  have T := Lib.hid (ht.mono NN.out.size)
  have U := Lib.hid (hu.mono NN.out.size)
  clear ht hu
  simp only at T U
  obtain ⟨Av, cv, rfl, hv1, hv2⟩ := T.out.form
  obtain ⟨Au, cu, rfl, hu1, hu2⟩ := U.out.form
  replace SB := Lib.hid (blk_next hb SB.out)
  replace NN := Lib.hid (Bgo NN.out hb)
  clear hb
  go_upto_region 2 with fail
  have HB : Hid ((w1.alloc (.cells #[.int .i64 d, .int .i64 p, .slice Av ds.length cv, .slice Au os.length cu, .int .i64 (strN os), .int .i64 (faN ds)] 79)).heap[w1.heap.size]? = some (.cells #[.int .i64 d, .int .i64 p, .slice Av ds.length cv, .slice Au os.length cu, .int .i64 (strN os), .int .i64 (faN ds)] 79)) := Lib.hid (blk_new _ _)
  have B9 : Below w1.heap.size w1 (w1.alloc (.cells #[.int .i64 d, .int .i64 p, .slice Av ds.length cv, .slice Au os.length cu, .int .i64 (strN os), .int .i64 (faN ds)] 79)) := Bal (Below.refl _ _) _
  have LX : w.heap.size < w1.heap.size := blk_lt SB.out
  replace SB := Lib.hid (blk_next B9 SB.out)
  replace NN := Lib.hid (Bgo NN.out B9)
  replace T := Lib.hid (T.out.next B9)
  replace U := Lib.hid (U.out.next B9)
  clear B9
  generalize (w1.alloc (.cells #[.int .i64 d, .int .i64 p, .slice Av ds.length cv, .slice Au os.length cu, .int .i64 (strN os), .int .i64 (faN ds)] 79)) = W1 at *
  generalize w1.heap.size = gh at *
  have h0 := blk_cell HB.out 0 _ rfl
  have h1 := blk_cell HB.out 1 _ rfl
  have h2 := blk_cell HB.out 2 _ rfl
  have h3 := blk_cell HB.out 3 _ rfl
  have h4 := blk_cell HB.out 4 _ rfl
  have h5 := blk_cell HB.out 5 _ rfl
  have lh := blk_lt HB.out
  go_wp2_with fail
  clear h0 h1 h2 h3 h4 h5 lh
  refine (oFind_calls Au cu w.heap.size os nm _ hu1 hu2 U.out.ro).mono ?_
  rintro e w2 ⟨rfl, hb⟩
  replace SB := Lib.hid (blk_next hb SB.out)
  replace HB := Lib.hid (blk_next hb HB.out)
  replace NN := Lib.hid (Bgo NN.out hb)
  replace T := Lib.hid (T.out.next hb)
  replace U := Lib.hid (U.out.next hb)
  clear hb
  go_wp2_with fail
  exact bodyPost_ret (v := .tuple #[.slice none 0 0, .int .i64 (6)]) (by simp [results, Try.results16, go_sem]) rfl ⟨_, rfl, RB.nil _ _, NN.out⟩
 have t0 : decide (findL os nm.toList < 0) = false := decide_eq_false q0
 obtain ⟨i, ob, hi, ho, _⟩ := findL_lt (show 0 ≤ findL os nm.toList by omega)
 have RES := Lib.hid (getR_at ck hi ho)
 generalize getR d p ds os nm = res at *
 have FI := Lib.hid hi
 have HO := Lib.hid ho
 obtain ⟨f0, m0, m40, fm, z0, z9, mz, zm, -, -⟩ := OK.out.ob ho
 have k9 := OK.out.str
 have d1 := OK.out.d1
 have d8 := OK.out.d8
 have hi9 := get_lt ho
 have i0 : (0 : Int) ≤ (i : Int) := by omega
 have i1 : (i : Int) < (os.length : Int) := by omega
 have n20 : ds.length ≤ 12 := by have := OK.out.len; have := OK.out.p4; omega
 rw [hi] at t0
 clear q0 FN hi ho mz
 obtain ⟨onm, osz, ofr, omn, odg⟩ := ob
 simp only at f0 m0 m40 fm z0 z9 zm RES
 obtain ⟨f, rfl⟩ : ∃ f : Nat, ofr = (f : Int) := ⟨ofr.toNat, by omega⟩
 obtain ⟨mn, rfl⟩ : ∃ mn : Nat, omn = (mn : Int) := ⟨omn.toNat, by omega⟩
 obtain ⟨sz, rfl⟩ : ∃ sz : Nat, osz = (sz : Int) := ⟨osz.toNat, by omega⟩
 simp only [Int.toNat_natCast] at RES
 go_enter Try.func16, Try.ntmps16
 go_upto_region 1 with fail
 have SB : Hid ((w.alloc (.cells #[.int .i64 d, .int .i64 p, .slice D ds.length cd, .slice A os.length ca] 25)).heap[w.heap.size]? = some (.cells #[.int .i64 d, .int .i64 p, .slice D ds.length cd, .slice A os.length ca] 25)) := Lib.hid (blk_new w _)
 have NN : Hid (Below w.heap.size w (w.alloc (.cells #[.int .i64 d, .int .i64 p, .slice D ds.length cd, .slice A os.length ca] 25))) := Lib.hid (Bal (Below.refl _ _) _)
 generalize (w.alloc (.cells #[.int .i64 d, .int .i64 p, .slice D ds.length cd, .slice A os.length ca] 25)) = W0 at *
 have s0 := blk_cell SB.out 0 _ rfl
 have s1 := blk_cell SB.out 1 _ rfl
 have s2 := blk_cell SB.out 2 _ rfl
 have s3 := blk_cell SB.out 3 _ rfl
 have ls := blk_lt SB.out
 go_wp2_with fail
 clear s0 s1 s2 s3 ls
 refine (open_ok d p D A cd ca B ds os _ hnd hcd hna hca (HD.out.next NN.out) (HS.out.next NN.out) HL.out ck).mono ?_
 rintro e w1 ⟨v, u, rfl, ht, hu, hb⟩
 have T := Lib.hid (ht.mono NN.out.size)
 have U := Lib.hid (hu.mono NN.out.size)
 clear ht hu
 simp only at T U
 obtain ⟨Av, cv, rfl, hv1, hv2⟩ := T.out.form
 obtain ⟨Au, cu, rfl, hu1, hu2⟩ := U.out.form
 replace SB := Lib.hid (blk_next hb SB.out)
 replace NN := Lib.hid (Bgo NN.out hb)
 clear hb
 go_upto_region 2 with fail
 have HB : Hid ((w1.alloc (.cells #[.int .i64 d, .int .i64 p, .slice Av ds.length cv, .slice Au os.length cu, .int .i64 (strN os), .int .i64 (faN ds)] 79)).heap[w1.heap.size]? = some (.cells #[.int .i64 d, .int .i64 p, .slice Av ds.length cv, .slice Au os.length cu, .int .i64 (strN os), .int .i64 (faN ds)] 79)) := Lib.hid (blk_new _ _)
 have B9 : Below w1.heap.size w1 (w1.alloc (.cells #[.int .i64 d, .int .i64 p, .slice Av ds.length cv, .slice Au os.length cu, .int .i64 (strN os), .int .i64 (faN ds)] 79)) := Bal (Below.refl _ _) _
 have LX : w.heap.size < w1.heap.size := blk_lt SB.out
 replace SB := Lib.hid (blk_next B9 SB.out)
 replace NN := Lib.hid (Bgo NN.out B9)
 replace T := Lib.hid (T.out.next B9)
 replace U := Lib.hid (U.out.next B9)
 clear B9
 generalize (w1.alloc (.cells #[.int .i64 d, .int .i64 p, .slice Av ds.length cv, .slice Au os.length cu, .int .i64 (strN os), .int .i64 (faN ds)] 79)) = W1 at *
 generalize w1.heap.size = gh at *
 have h0 := blk_cell HB.out 0 _ rfl
 have h1 := blk_cell HB.out 1 _ rfl
 have h2 := blk_cell HB.out 2 _ rfl
 have h3 := blk_cell HB.out 3 _ rfl
 have h4 := blk_cell HB.out 4 _ rfl
 have h5 := blk_cell HB.out 5 _ rfl
 have lh := blk_lt HB.out
 go_wp2_with fail
 clear h0 h1 h2 h3 h4 h5 lh
 refine (oFind_calls Au cu w.heap.size os nm _ hu1 hu2 U.out.ro).mono ?_
 rintro e w2 ⟨rfl, hb⟩
 replace SB := Lib.hid (blk_next hb SB.out)
 replace HB := Lib.hid (blk_next hb HB.out)
 replace NN := Lib.hid (Bgo NN.out hb)
 replace T := Lib.hid (T.out.next hb)
 replace U := Lib.hid (U.out.next hb)
 clear hb
 rw [FI.out]
 obtain ⟨b, off, rfl, hb9, c0, c1, c2, c3, c4⟩ := U.out.ro.at_ HO.out
 have h0 := blk_cell HB.out 0 _ rfl
 have h1 := blk_cell HB.out 1 _ rfl
 have h2 := blk_cell HB.out 2 _ rfl
 have h3 := blk_cell HB.out 3 _ rfl
 have h4 := blk_cell HB.out 4 _ rfl
 have h5 := blk_cell HB.out 5 _ rfl
 have lh := blk_lt HB.out
 simp only at c0 c1 c2 c3 c4
 go_upto_region 8 with fail
 have QB : Hid ((w2.alloc (.cells #[.string onm, .int .i64 (sz : Int), .int .i64 (f : Int), .int .i64 (mn : Int), .int .i64 odg] 50)).heap[w2.heap.size]? = some (.cells #[.string onm, .int .i64 (sz : Int), .int .i64 (f : Int), .int .i64 (mn : Int), .int .i64 odg] 50)) := Lib.hid (blk_new _ _)
 have B9 : Below w2.heap.size w2 (w2.alloc (.cells #[.string onm, .int .i64 (sz : Int), .int .i64 (f : Int), .int .i64 (mn : Int), .int .i64 odg] 50)) := Bal (Below.refl _ _) _
 clear h0 h1 h2 h3 h4 h5 lh c0 c1 c2 c3 c4 hb9
 replace SB := Lib.hid (blk_next B9 SB.out)
 replace HB := Lib.hid (blk_next B9 HB.out)
 replace NN := Lib.hid (Bgo NN.out B9)
 replace T := Lib.hid (T.out.next B9)
 replace U := Lib.hid (U.out.next B9)
 clear B9
 generalize (w2.alloc (.cells #[.string onm, .int .i64 (sz : Int), .int .i64 (f : Int), .int .i64 (mn : Int), .int .i64 odg] 50)) = W2 at *
 generalize w2.heap.size = go at *
 have LO := blk_lt QB.out
 have LB := blk_lt HB.out
 have o1 := blk_cell QB.out 1 _ rfl
 have o2 := blk_cell QB.out 2 _ rfl
 have o3 := blk_cell QB.out 3 _ rfl
 have o4 := blk_cell QB.out 4 _ rfl
 obtain ⟨j0, hj0, hy0, hy1, hy2⟩ := info_parts u8_info
 have HJ := Lib.hid (And.intro hj0 (And.intro hy0 (And.intro hy1 hy2)))
 clear hj0 hy0 hy1 hy2
 have HKB : Hid (∀ k : Nat, k < mn → ∀ x ∈ ds, x.failed = false → f + k < x.blocks.length) := Lib.hid (fun k hk x hx hf => by have := ((OK.out.dkl hx).2 hf).1; omega)
 have HR2 := Lib.hid T.out.rd
 go_wp2_with fail
 clear o1 o2 o3 o4
 go_loopw [10, 39] (fun v i wr => ∃ k : Nat, k ≤ mn ∧ i = .int .i64 k ∧ Hid ((getTo d p ds f k).2 = 0) ∧ Hid (Byt (getTo d p ds f k).1) ∧ Hid (Below W2.heap.size W2 wr) ∧ Hid (OB W2.heap.size wr v (getTo d p ds f k).1)) (fun _ i _ => mn - (intOf i).toNat)
 case atStart => exact ⟨0, by omega, rfl, Lib.hid rfl, Lib.hid (fun x hx => by cases hx), Lib.hid (Below.refl _ _), Lib.hid (World.ownsRow_nil _ _ _ _)⟩
 case round =>
  obtain ⟨k, hk, rfl, G0, GB, NI, OV⟩ := hrel
  have QBx := Lib.hid (blk_next NI.out QB.out)
  have BX := Lib.hid (blk_next NI.out HB.out)
  have NX := Lib.hid (Bgo NN.out NI.out)
  have GL := Lib.hid (fun h => getTo_len OK.out (fr := f) (k := k) h G0.out)
  obtain ⟨Ag, cg, hv, hg1, hg2, _⟩ := own_form OV.out
  subst hv
  obtain ⟨wo, rfl⟩ : ∃ wo : World, wo = wr := ⟨_, rfl⟩
  have o0 := blk_cell QBx.out 0 _ rfl
  have o1 := blk_cell QBx.out 1 _ rfl
  have o2 := blk_cell QBx.out 2 _ rfl
  have o3 := blk_cell QBx.out 3 _ rfl
  have o4 := blk_cell QBx.out 4 _ rfl
  have lo := blk_lt QBx.out
  have h0 := blk_cell BX.out 0 _ rfl
  have h1 := blk_cell BX.out 1 _ rfl
  have h2 := blk_cell BX.out 2 _ rfl
  have h3 := blk_cell BX.out 3 _ rfl
  have h4 := blk_cell BX.out 4 _ rfl
  have h5 := blk_cell BX.out 5 _ rfl
  have lh := blk_lt BX.out
  by_cases hlt : k < mn
  rotate_left
  ·obtain rfl : mn = k := by omega
   have GN := GL.out (by omega)
   have hsz : sz ≤ (getTo d p ds f mn).1.length := by rw [GN, ← Int.ofNat_le]; push_cast; rw [Int.toNat_of_nonneg (by omega)]; exact zm
   have z1 : (0 : Int) ≤ (sz : Int) := by omega
   have z2 : (sz : Int) ≤ (cg : Int) := by omega
   have RT := Lib.hid (OB.take_ (n := sz) OV.out GB.out hsz)
   have DC : Hid (∀ W, RBA 0 W Ag ((getTo d p ds f mn).1.take sz) → Calls Try.prog 18 #[.slice Ag sz cg] W fun e w' => e = .returned (.int .i64 ((digL ((getTo d p ds f mn).1.take sz) : Nat) : Int)) ∧ Below W.heap.size W w') := Lib.hid (fun W h => by
    have := digest_calls Ag cg 0 _ W (by rw [List.length_take]; omega) hg2 h
    rw [List.length_take, Nat.min_eq_left hsz] at this
    exact calls_below this)
   have RTA : Hid (RBA 0 wo Ag ((getTo d p ds f mn).1.take sz)) := Lib.hid (by obtain ⟨A', c', e, _, _, h⟩ := RT.out; injection e with e1 _ _; rw [e1]; exact h)
   rw [if_pos G0.out] at RES
   by_cases hd : ((digL ((getTo d p ds f mn).1.take sz) : Nat) : Int) = odg
   ·rw [if_pos hd] at RES
    have hq : (((digL ((getTo d p ds f mn).1.take sz) : Nat) : Int) != odg) = false := by rw [bne_eq_false_iff_eq]; exact hd
    go_wp2_with fail
    clear o0 o1 o2 o3 o4 lo h0 h1 h2 h3 h4 h5 lh
    refine region_I (S := SK [(3, go, .cells #[.string onm, .int .i64 (sz : Int), .int .i64 (f : Int), .int .i64 (mn : Int), .int .i64 odg] 50)]) (by kernel_rfl) ?_
    have HAL := Lib.hid (fun (k : Nat) => (show SK [(3, go, .cells #[.string onm, .int .i64 (sz : Int), .int .i64 (f : Int), .int .i64 (mn : Int), .int .i64 odg] 50)] k wo.drew from fun p hp e => by
     simp only [List.mem_cons, List.not_mem_nil, or_false] at hp
     rcases hp with rfl
     ·exact QBx.out))
    have HDRW := Lib.hid (Below.drew (Below.refl wo.heap.size wo))
    replace NX := Lib.hid (Bgo NX.out HDRW.out)
    replace RTA := Lib.hid (RTA.out.next HDRW.out)
    replace RT := Lib.hid (RT.out.next HDRW.out)
    replace QBx := Lib.hid (blk_next HDRW.out QBx.out)
    clear HDRW
    refine tJ 0 (.slice Ag sz cg) (some 75) rfl (SK.drop (by simp)) (Or.inl ⟨by rfl, ?_⟩) ?_
    ·intro X hX
     clear hX
     go_simp
    try simp only [Act.put, zA, zB, zC]
    refine tJ 2 (.pointer (some ⟨go, 4, none⟩)) (some 77) rfl (SK.drop (by simp)) (Or.inl ⟨by rfl, ?_⟩) ?_
    ·intro X hX
     clear hX
     go_simp
    try simp only [Act.put, zA, zB, zC]
    refine tJ 3 (.int .i64 odg) (some 78) rfl (HAL.out 3) (Or.inl ⟨by rfl, ?_⟩) ?_
    ·intro X hX
     have hh := hX (3, go, .cells #[.string onm, .int .i64 (sz : Int), .int .i64 (f : Int), .int .i64 (mn : Int), .int .i64 odg] 50) (List.Mem.head _) rfl
     have hh4 := blk_cell hh 4 _ rfl
     have hhl := blk_lt hh
     clear hh
     clear hX
     go_simp
    try simp only [Act.put, zA, zB, zC]
    refine only_I 1 (by kernel_rfl) rfl (fun K' hK' => ?_)
    go_simp
    go_at_call 18
    refine (DC.out _ RTA.out).mono ?_
    rintro e x1 ⟨rfl, hb⟩
    replace NX := Lib.hid (Bgo NX.out hb)
    replace RTA := Lib.hid (RTA.out.next hb)
    replace RT := Lib.hid (RT.out.next hb)
    replace QBx := Lib.hid (blk_next hb QBx.out)
    go_simp
    refine hK'.out _ _ (fun k _ hS => hS.next hb) ?_
    clear hK' K'
    try simp only [Act.put, zA, zB, zC]
    replace HAL := Lib.hid (fun k => (HAL.out k).next hb)
    refine tJ 4 (.bool false) (some 79) rfl (SK.drop (by simp)) (Or.inl ⟨by rfl, ?_⟩) ?_
    ·intro X hX
     clear hX
     go_simp
    try simp only [Act.put, zA, zB, zC]
    clear HAL
    refine done_I (by kernel_rfl) ?_ _
    go_wp2_with fail
    exact bodyPost_ret (v := .tuple #[.slice Ag sz cg, .int .i64 (0)]) (by simp [results, Try.results16, go_sem]) rfl ⟨_, by rw [RES.out], by rw [RES.out]; exact RT.out, NX.out⟩
   ·rw [if_neg hd] at RES
    have hq : (((digL ((getTo d p ds f mn).1.take sz) : Nat) : Int) != odg) = true := by rw [bne_iff_ne]; exact hd
    go_wp2_with fail
    clear o0 o1 o2 o3 o4 lo h0 h1 h2 h3 h4 h5 lh
    refine region_I (S := SK [(3, go, .cells #[.string onm, .int .i64 (sz : Int), .int .i64 (f : Int), .int .i64 (mn : Int), .int .i64 odg] 50)]) (by kernel_rfl) ?_
    have HAL := Lib.hid (fun (k : Nat) => (show SK [(3, go, .cells #[.string onm, .int .i64 (sz : Int), .int .i64 (f : Int), .int .i64 (mn : Int), .int .i64 odg] 50)] k wo.drew from fun p hp e => by
     simp only [List.mem_cons, List.not_mem_nil, or_false] at hp
     rcases hp with rfl
     ·exact QBx.out))
    have HDRW := Lib.hid (Below.drew (Below.refl wo.heap.size wo))
    replace NX := Lib.hid (Bgo NX.out HDRW.out)
    replace RTA := Lib.hid (RTA.out.next HDRW.out)
    replace RT := Lib.hid (RT.out.next HDRW.out)
    replace QBx := Lib.hid (blk_next HDRW.out QBx.out)
    clear HDRW
    refine tJ 0 (.slice Ag sz cg) (some 75) rfl (SK.drop (by simp)) (Or.inl ⟨by rfl, ?_⟩) ?_
    ·intro X hX
     clear hX
     go_simp
    try simp only [Act.put, zA, zB, zC]
    refine tJ 2 (.pointer (some ⟨go, 4, none⟩)) (some 77) rfl (SK.drop (by simp)) (Or.inl ⟨by rfl, ?_⟩) ?_
    ·intro X hX
     clear hX
     go_simp
    try simp only [Act.put, zA, zB, zC]
    refine tJ 3 (.int .i64 odg) (some 78) rfl (HAL.out 3) (Or.inl ⟨by rfl, ?_⟩) ?_
    ·intro X hX
     have hh := hX (3, go, .cells #[.string onm, .int .i64 (sz : Int), .int .i64 (f : Int), .int .i64 (mn : Int), .int .i64 odg] 50) (List.Mem.head _) rfl
     have hh4 := blk_cell hh 4 _ rfl
     have hhl := blk_lt hh
     clear hh
     clear hX
     go_simp
    try simp only [Act.put, zA, zB, zC]
    refine only_I 1 (by kernel_rfl) rfl (fun K' hK' => ?_)
    go_simp
    go_at_call 18
    refine (DC.out _ RTA.out).mono ?_
    rintro e x1 ⟨rfl, hb⟩
    replace NX := Lib.hid (Bgo NX.out hb)
    replace RTA := Lib.hid (RTA.out.next hb)
    replace RT := Lib.hid (RT.out.next hb)
    replace QBx := Lib.hid (blk_next hb QBx.out)
    go_simp
    refine hK'.out _ _ (fun k _ hS => hS.next hb) ?_
    clear hK' K'
    try simp only [Act.put, zA, zB, zC]
    replace HAL := Lib.hid (fun k => (HAL.out k).next hb)
    refine tJ 4 (.bool true) (some 79) rfl (SK.drop (by simp)) (Or.inl ⟨by rfl, ?_⟩) ?_
    ·intro X hX
     clear hX
     go_simp
    try simp only [Act.put, zA, zB, zC]
    clear HAL
    refine done_I (by kernel_rfl) ?_ _
    go_wp2_with fail
    exact bodyPost_ret (v := .tuple #[.slice none 0 0, .int .i64 (30)]) (by simp [results, Try.results16, go_sem]) rfl ⟨_, by rw [RES.out], by rw [RES.out]; exact RB.nil _ _, NX.out⟩
  have k1 : (0 : Int) ≤ (k : Int) := by omega
  have k2 : (k : Int) < (mn : Int) := by omega
  have fk : ((f + k : Nat) : Int) < strN os := by omega
  have EK : (((f + k : Nat) : Int)) = (f : Int) + (k : Int) := by omega
  have SC := Lib.hid (fun (W : World) (h : Below wo.heap.size wo W) => stripe_calls d p Av (some ⟨b, off, none⟩) cv os.length cu w.heap.size (strN os) (faN ds : Int) ds (f + k) W hv1 hv2 ((HR2.out.next NI.out).next h) (by omega) (HKB.out k hlt))
  simp only [EK] at SC
  have RC := Lib.hid (fun A5 c5 W h1 h2 h3 => restore_calls d p A5 c5 0 (strp ds (f + k)) W h1 h2 h3)
  have RR := Lib.hid (fun h => strp_rows OK.out fk h)
  have GS : Hid (getTo d p ds f (k + 1) = if resE d p (strp ds (f + k)) = 0 then ((getTo d p ds f k).1 ++ ((resS d p (strp ds (f + k))).2.2.take d.toNat).flatten, 0) else ([], resE d p (strp ds (f + k)))) := Lib.hid (by rw [getTo, if_pos G0.out])
  have LM := Lib.hid (strp_len ds (f + k))
  by_cases hr : resE d p (strp ds (f + k)) = 0
  rotate_left
  ·have hr2 : (resE d p (strp ds (f + k)) != 0) = true := by rw [bne_iff_ne]; exact hr
   rw [if_neg hr] at GS
   have GT : getTo d p ds f mn = ([], resE d p (strp ds (f + k))) := by rw [getTo_stay (k := k + 1) (by rw [GS.out]; exact hr) (by omega), GS.out]
   rw [GT, if_neg hr] at RES
   generalize resE d p (strp ds (f + k)) = er at *
   go_wp2_with fail
   clear o0 o1 o2 o3 o4 lo h0 h1 h2 h3 h4 h5 lh
   refine (SC.out _ (Below.refl _ _)).mono ?_
   rintro e w5 ⟨v5, rfl, hm5, hb5⟩
   obtain ⟨A5, c5, rfl, h51, h52, h53⟩ := hm5
   go_wp2_with fail
   refine (RC.out A5 c5 _ h51 h52 h53).mono ?_
   rintro e w6 ⟨v6, rfl, hm6, hb6⟩
   obtain ⟨us6, hm6⟩ := hm6
   obtain ⟨A6, c6, rfl, h61, h62, _⟩ := own_form hm6.top
   clear hm6 h51 h52 h53 SC RC GS LM RR h61 h62
   generalize (resS d p (strp ds (f + k))).1 = D6 at *
   generalize (resS d p (strp ds (f + k))).2.1 = M6 at *
   generalize (resS d p (strp ds (f + k))).2.2.length = n6 at *
   go_wp2_with fail
   exact bodyPost_ret (v := .tuple #[.slice none 0 0, .int .i64 (er)]) (by simp [results, Try.results16, go_sem]) rfl ⟨_, by rw [RES.out], by rw [RES.out]; exact RB.nil _ _, Bal (Bgo (Bgo NX.out hb5) hb6) _⟩
  have hr2 : (resE d p (strp ds (f + k)) != 0) = false := by rw [bne_eq_false_iff_eq]; exact hr
  rw [if_pos hr] at GS
  obtain ⟨r1, r2, -, -, -⟩ := RR.out hr
  have R1 := Lib.hid r1
  have R2 := Lib.hid r2
  clear r1 r2
  rw [hr] at RC
  have DT : d.toNat ≤ ds.length := by have := OK.out.len; have := OK.out.p0; omega
  go_wp2_with fail
  clear o0 o1 o2 o3 o4 lo h0 h1 h2 h3 h4 h5 lh
  refine (SC.out _ (Below.refl _ _)).mono ?_
  rintro e w5 ⟨v5, rfl, hm5, hb5⟩
  obtain ⟨A5, c5, rfl, h51, h52, h53⟩ := hm5
  go_wp2_with fail
  refine (RC.out A5 c5 _ h51 h52 h53).mono ?_
  rintro e w6 ⟨v6, rfl, hm6, hb6⟩
  obtain ⟨us6, hm6⟩ := hm6
  have TM := Lib.hid hm6
  obtain ⟨A6, c6, rfl, h61, h62, _⟩ := own_form hm6.top
  clear hm6 h51 h52 h53 SC RC LM RR
  generalize (resS d p (strp ds (f + k))).2.2 = rows at *
  generalize (resS d p (strp ds (f + k))).1 = D6 at *
  generalize (resS d p (strp ds (f + k))).2.1 = M6 at *
  have LL : Hid ((getTo d p ds f k).1.length ≤ 2560) := Lib.hid (by rw [GL.out (by omega)]; have := Nat.mul_le_mul (show k ≤ 40 by omega) (show d.toNat ≤ 8 by omega); omega)
  generalize (getTo d p ds f k).1 = L at *
  go_upto_region 13 with fail
  have PB : Hid ((w6.alloc (.cells #[.int .i64 D6, .int .i64 M6, .slice A6 rows.length c6] 54)).heap[w6.heap.size]? = some (.cells #[.int .i64 D6, .int .i64 M6, .slice A6 rows.length c6] 54)) := Lib.hid (blk_new _ _)
  have N6 : Hid (Below wo.heap.size wo (w6.alloc (.cells #[.int .i64 D6, .int .i64 M6, .slice A6 rows.length c6] 54))) := Lib.hid (Bal (Bgo hb5 hb6) _)
  replace TM := Lib.hid (TM.out.next (Bal (Below.refl _ _) (.cells #[.int .i64 D6, .int .i64 M6, .slice A6 rows.length c6] 54)))
  have L5 : wo.heap.size ≤ w5.heap.size := hb5.size
  have L6 : w5.heap.size ≤ w6.heap.size := hb6.size
  have L7 : w6.heap.size < (w6.alloc (.cells #[.int .i64 D6, .int .i64 M6, .slice A6 rows.length c6] 54)).heap.size := blk_lt PB.out
  clear hb5 hb6
  generalize (w6.alloc (.cells #[.int .i64 D6, .int .i64 M6, .slice A6 rows.length c6] 54)) = W6 at *
  generalize w6.heap.size = gp at *
  generalize w5.heap.size = nb at *
  have P2 := blk_cell PB.out 2 _ rfl
  have B6 := Lib.hid (blk_next N6.out BX.out)
  have h0 := blk_cell B6.out 0 _ rfl
  have V0 : Hid (OB W2.heap.size W6 (.slice Ag L.length cg) L) := Lib.hid (own_next N6.out OV.out)
  have NI6 := Lib.hid (Bgo NI.out N6.out)
  have BD0 : Hid (∀ g, (Value.slice Ag L.length cg).ownBlock = some g → g < nb ∨ W6.heap.size ≤ g) := Lib.hid (fun g hg => .inl (by have := (OV.out.lt g hg).2; omega))
  have d0 : (0 : Int) ≤ d := by omega
  have d2 : d ≤ (c6 : Int) := by have r1 := R1.out; omega
  have d3 : ((d.toNat : Nat) : Int) = d := Int.toNat_of_nonneg d0
  go_wp2_with fail
  clear P2 h0 N6
  go_loopw [10, 62] (fun v i wr => ∃ j : Nat, j ≤ d.toNat ∧ i = .int .i64 j ∧ Hid (Below W2.heap.size W2 wr) ∧ Hid (OB W2.heap.size wr v (L ++ (rows.take j).flatten)) ∧ Hid (∀ g, nb ≤ g → g < W6.heap.size → wr.heap[g]? = W6.heap[g]?) ∧ Hid (∀ g, v.ownBlock = some g → g < nb ∨ W6.heap.size ≤ g) ∧ Hid (W6.heap.size ≤ wr.heap.size)) (fun _ i _ => d.toNat - (intOf i).toNat)
  case atStart => exact ⟨0, by omega, rfl, NI6, Lib.hid (by rw [List.take_zero, List.flatten_nil, List.append_nil]; exact V0.out), Lib.hid (fun g _ _ => rfl), BD0, Lib.hid (Nat.le_refl _)⟩
  case round =>
   clear V0 BD0 NI6
   obtain ⟨j, hj, rfl, NJ, VJ, KJ, BDJ, SZJ⟩ := hrel
   have PJ : Hid (wr.heap[gp]? = _) := Lib.hid ((KJ.out gp L6 L7).trans PB.out)
   have p2 := blk_cell PJ.out 2 _ rfl
   have BJ := Lib.hid (blk_next NJ.out HB.out)
   have h0 := blk_cell BJ.out 0 _ rfl
   have lp := blk_lt PJ.out
   have lb := blk_lt BJ.out
   by_cases hlj : j < d.toNat
   rotate_left
   ·obtain rfl : j = d.toNat := by omega
    have hd9 : ¬ (((d.toNat : Nat) : Int) < d) := by omega
    go_wp2_with fail
    refine ⟨⟨k + 1, by omega, by go_num, Lib.hid (by rw [GS.out]), Lib.hid ?_, NJ, Lib.hid (by rw [GS.out]; exact VJ.out)⟩, by simp [intOf]; omega⟩
    rw [GS.out]
    intro x hx
    rcases List.mem_append.1 hx with h1 | h1
    ·exact GB.out x h1
    ·exact byt_flat (fun l hl => TM.out.byt l (List.mem_of_mem_take hl)) x h1
   have r1 := R1.out
   obtain ⟨l, hl⟩ := get_some (show j < rows.length by omega)
   have j4 : (j : Int) < (rows.length : Int) := by omega
   clear r1
   have TR : OMx nb wr (.slice A6 rows.length c6) us6 rows := TM.out.same (fun g cs t hg hh _ => KJ.out g hg (blk_lt hh))
   obtain ⟨b7, off7, Al, cl, rfl, hb7, h71, h72, h73, h74⟩ := TR.rma.at_ hl
   have HB7 := Lib.hid h74
   have HL7 := Lib.hid hl
   have l8 : l.length ≤ 8 := Nat.le_of_eq (R2.out l (List.mem_of_getElem? hl))
   have j1 : (0 : Int) ≤ (j : Int) := by omega
   have j2 : (j : Int) < ((d.toNat : Nat) : Int) := by omega
   have j3 : (j : Int) < d := by omega
   have FL : Hid ((L ++ (rows.take j).flatten).length ≤ 3000) := Lib.hid (by rw [List.length_append, flat_len8 (fun l hl => R2.out l (List.mem_of_mem_take hl)), List.length_take]; have := LL.out; omega)
   have sz9 : W2.heap.size ≤ wr.heap.size := NJ.out.size
   clear TR h74 hl
   obtain ⟨Q, hQ⟩ : ∃ Q, Q = L ++ (rows.take j).flatten := ⟨_, rfl⟩
   rw [← hQ] at VJ FL
   have HQ := Lib.hid hQ
   clear hQ
   obtain ⟨Aj, cj, hvj, hj8, hj9, _⟩ := own_form VJ.out
   subst hvj
   go_wp2_with (at_builtin; refine wpList_append_rd _ rfl _ _ 26 rfl W2.heap.size 5 j0 (.int .u8 0) 1 1 Try.underlying26 HJ.out.1 HJ.out.2.1 HJ.out.2.2.1 HJ.out.2.2.2 rfl (by decide) _ Q.length (bv Q) rfl VJ.out Al l.length cl (bv l) rfl (HB7.out.2.rd (bv_len l)) (bv_one l) (by have := FL.out; simp only [maxLen]; omega) (by have := FL.out; omega) sz9 ?_; intro v8 w8 hown8 hg8 hat8; have V8 := Lib.hid hown8; have G8 := Lib.hid hg8; have A8 := Lib.hid hat8; have P8 : w8.heap[gp]? = some (.cells #[.int .i64 D6, .int .i64 M6, .slice (some ⟨b7, off7, none⟩) rows.length c6] 54) := gblk hg8 PJ.out (fun e => by rcases BDJ.out gp e.symm with h | h <;> omega); clear hown8 hg8 hat8)
   refine ⟨⟨j + 1, by omega, by go_num, Lib.hid ?_, Lib.hid ?_, Lib.hid ?_, Lib.hid ?_, Lib.hid ?_⟩, by simp [intOf]; omega⟩
   ·exact gbel G8.out NJ.out (fun g hg => (VJ.out.lt g hg).1)
   ·rw [take_snoc' HL7.out, List.flatten_append, ← List.append_assoc, ← HQ.out]
    have := V8.out
    rw [← bv_append, ← List.length_append] at this
    have e1 : [l].flatten = l := by simp
    rw [e1]
    exact this
   ·exact fun g hg1 hg2 => (G8.out.block g (by have := SZJ.out; omega) (fun e => by rcases BDJ.out g e.symm with h | h <;> omega)).trans (KJ.out g hg1 hg2)
   ·intro g hg
    rcases A8.out with e | e
    ·exact BDJ.out g (e.symm.trans hg)
    ·rw [e] at hg
     injection hg with hg
     right; rw [← hg]; exact SZJ.out
   ·exact Nat.le_trans SZJ.out G8.out.size
end Go.Proofs.Ytapehckcmmompaa
namespace Go.Proofs.Ytapehckcmmompaa
open Go.ChangeShapes Go.WideShapes Go.ChangeAt Go.RowKit
set_option linter.unusedVariables false
set_option maxRecDepth 100000
attribute [local go_sem ↓] Go.wp_at_zero Go.wp_at_succ
def txtL (n : Nat) : List Nat := (List.range n).map fun i => (i * i + 1) % 256
theorem txtL_len (n : Nat) : (txtL n).length = n := by simp [txtL]
theorem txtL_succ (n : Nat) : txtL (n + 1) = txtL n ++ [(n * n + 1) % 256] := by simp [txtL, List.range_succ]
theorem txtL_byt (n : Nat) : Byt (txtL n) := fun x hx => by
 obtain ⟨i, _, rfl⟩ := List.mem_map.1 hx
 exact Nat.mod_lt _ (by decide)
set_option maxHeartbeats 4000000 in
theorem text_calls (n : Nat) (hn : n ≤ 400) (w : World) :
  Calls Try.prog 38 #[.int .i64 (n : Int)] w fun e w' => ∃ v, e = .returned v ∧ OB w.heap.size w' v (txtL n) ∧ Below w.heap.size w w' := by
 obtain ⟨j0, hj0, hy0, hy1, hy2⟩ := info_parts u8_info
 have HJ := Lib.hid (And.intro hj0 (And.intro hy0 (And.intro hy1 hy2)))
 clear hj0 hy0 hy1 hy2
 go_enter Try.func38, Try.ntmps38
 go_wp2_with fail
 go_loopw [3, 4] (fun v i wr => ∃ k : Nat, k ≤ n ∧ i = .int .i64 k ∧ Hid (Below w.heap.size w wr) ∧ Hid (wr.ownsRow w.heap.size 5 1 v k (bv (txtL k)))) (fun _ i _ => n - (intOf i).toNat)
 case atStart => exact ⟨0, by omega, rfl, Lib.hid (Below.refl _ _), Lib.hid (World.ownsRow_nil _ _ _ _)⟩
 case round =>
  obtain ⟨k, hk, rfl, N, O⟩ := hrel
  by_cases hlt : k < n
  ·obtain ⟨m, hm⟩ : ∃ m, m = k * k := ⟨_, rfl⟩
   have m9 : m ≤ 160000 := by rw [hm]; exact Nat.mul_le_mul (by omega : k ≤ 400) (by omega : k ≤ 400)
   have HM := Lib.hid hm
   have b1 : (k : Int) * (k : Int) = (m : Int) := by rw [hm]; push_cast; rfl
   have b2 : IntKind.i64.wrap (m : Int) = (m : Int) := IntWalk.i64_in _ (by omega)
   have b3 : IntKind.i64.wrap ((m : Int) + 1) = (m : Int) + 1 := IntWalk.i64_in _ (by omega)
   have b4 : IntKind.u8.wrap ((m : Int) + 1) = (((m + 1) % 256 : Nat) : Int) := by unfold IntKind.wrap; simp [IntKind.bits, IntKind.signed] <;> omega
   have LN := N.out.size
   have k2 : (k : Int) < (n : Int) := by omega
   clear hm
   go_wp2_with (at_builtin; refine wpList_append_rd _ rfl _ _ 26 rfl w.heap.size 5 j0 (.int .u8 0) 1 1 Try.underlying26 HJ.out.1 HJ.out.2.1 HJ.out.2.2.1 HJ.out.2.2.2 rfl (by decide) _ k (bv (txtL k)) rfl (O.out.alloc _) (some ⟨wr.heap.size, 0, none⟩) 1 1 [.int .u8 (((m + 1) % 256 : Nat) : Int)] rfl (rd_one (t := 5) (blk_new _ _)) (fun u hu => by simp at hu; subst hu; rfl) (by simp only [maxLen]; omega) (by omega) (by first | exact LN | (simp; omega)) ?_; intro v1 w1 hown1 hg1 hat1; have O1 := Lib.hid hown1; have N1 : Hid (Below w.heap.size w w1) := Lib.hid (gbel hg1 (Bal N.out _) (fun g hg => (O.out.lt g hg).1)); clear hown1 hg1 hat1)
   refine ⟨⟨k + 1, by omega, by go_num, N1, Lib.hid ?_⟩, by simp [intOf]; omega⟩
   rw [txtL_succ, ← HM.out, bv_append]; exact O1.out
  ·obtain rfl : n = k := by omega
   go_wp2_with fail
   go_ret
   exact ⟨_, rfl, by unfold OB; rw [txtL_len]; exact O.out, N.out⟩
end Go.Proofs.Ytapehckcmmompaa
